/- Contracts of functions of this seat, each out of a walk through its code, and plain facts on what they compute. Conditions: those that each theorem names. -/
import Derived.Test.YtfakhaagbimljaaDoorW01
set_option linter.unusedSimpArgs false
set_option linter.unusedVariables false
set_option maxRecDepth 100000
namespace Go.AV
open Nat renaming reduceEqDiff → J, reduceAdd → D, reduceLeDiff → M, reduceLT → U, reduceMul → O, reduceSub → S
open List renaming set_cons_zero → bG, set_cons_succ → bH, getD_cons_zero → ad, length_append → ag, map_cons → aR, cons_append → b0, map_nil → bf, length_cons → af, nil_append → aD, take_succ_cons → aj, length_nil → au, length_map → bP, length_replicate → bm, take_length → aE, mem_cons_self → aM, mem_cons_of_mem → aH
open Int renaming toNat_natCast → ae
/-plain-/
def cmr (a b : List Int) : Int := match a, b with
  | [], [] => 0
  | [], _ :: _ => -1
  | _ :: _, [] => 1
  | x :: a, y :: b => if x = y then cmr a b else if x < y then -1 else 1
theorem gk : ∀ a b : List Int, dv a b = cmr a b
  | [], [] => by simp [dv, cmn, cmr]
  | [], y :: b => by simp [dv, cmn, cmr]
  | x :: a, [] => by simp [dv, cmn, cmr]
  | x :: a, y :: b => by
    have ih := gk a b
    by_cases e : x = y
    · subst e
      have h1 : cmr (x :: a) (x :: b) = cmr a b := by simp [cmr]
      rw [h1, ← ih]
      have h2 : cmn (x :: a) (x :: b) = cmn a b + 1 := by simp [cmn]
      unfold dv
      rw [h2]
      simp only [af, List.getD_cons_succ]
      by_cases g1 : cmn a b = a.length ∧ cmn a b = b.length
      · rw [if_pos g1, if_pos (by omega)]
      · rw [if_neg g1, if_neg (by omega)]
        by_cases g2 : cmn a b = a.length ∨ (cmn a b < b.length ∧ a.getD (cmn a b) 0 < b.getD (cmn a b) 0)
        · rw [if_pos g2, if_pos (g2.imp (fun h => by omega) (fun h => ⟨by omega, h.2⟩))]
        · rw [if_neg g2, if_neg (fun h => g2 (h.imp (fun h => by omega) (fun h => ⟨by omega, h.2⟩)))]
    · have h2 : cmn (x :: a) (y :: b) = 0 := by simp [cmn, e]
      unfold dv
      rw [h2]
      simp only [cmr, if_neg e, af, ad]
      rw [if_neg (by omega)]
      by_cases l : x < y
      · rw [if_pos (.inr ⟨by omega, l⟩), if_pos l]
      · rw [if_neg (fun h => h.elim (fun h => by omega) (fun h => l h.2)), if_neg l]
theorem nJ : ∀ a b : List Int, cmr a b = -1 ∨ cmr a b = 0 ∨ cmr a b = 1
  | [], [] => by simp [cmr]
  | [], _ :: _ => by simp [cmr]
  | _ :: _, [] => by simp [cmr]
  | x :: a, y :: b => by
    simp only [cmr]
    split
    · exact nJ a b
    · split <;> simp
theorem md : ∀ {a b : List Int}, cmr a b = 0 → a = b
  | [], [], _ => rfl
  | [], _ :: _, h => by simp [cmr] at h
  | _ :: _, [], h => by simp [cmr] at h
  | x :: a, y :: b, h => by
    simp only [cmr] at h
    split at h
    · rename_i e; rw [e, md h]
    · split at h <;> cases h
theorem nt : ∀ a b : List Int, cmr b a = - cmr a b
  | [], [] => rfl
  | [], _ :: _ => rfl
  | _ :: _, [] => rfl
  | x :: a, y :: b => by
    simp only [cmr]
    by_cases e : x = y
    · subst e; rw [if_pos rfl, if_pos rfl]; exact nt a b
    · rw [if_neg (Ne.symm e), if_neg e]
      by_cases l : x < y
      · rw [if_pos l, if_neg (by omega)]; rfl
      · rw [if_neg l, if_pos (by omega)]
theorem lc : ∀ {a b c : List Int}, cmr a b = -1 → cmr b c = -1 → cmr a c = -1
  | [], [], _, h, _ => by simp [cmr] at h
  | [], _ :: _, [], _, h => by simp [cmr] at h
  | [], _ :: _, _ :: _, _, _ => rfl
  | _ :: _, [], _, h, _ => by simp [cmr] at h
  | _ :: _, _ :: _, [], _, h => by simp [cmr] at h
  | x :: a, y :: b, z :: c, h, k => by
    simp only [cmr] at h k ⊢
    by_cases e : x = y
    · subst e
      rw [if_pos rfl] at h
      by_cases e2 : x = z
      · subst e2; rw [if_pos rfl] at k ⊢; exact lc h k
      · rw [if_neg e2] at k ⊢; exact k
    · rw [if_neg e] at h
      have l : x < y := by
        rcases (show x < y ∨ y ≤ x by omega) with q | q
        · exact q
        · rw [if_neg (by omega)] at h; cases h
      by_cases e2 : y = z
      · subst e2; rw [if_neg e, if_pos l]
      · rw [if_neg e2] at k
        have l2 : y < z := by
          rcases (show y < z ∨ z ≤ y by omega) with q | q
          · exact q
          · rw [if_neg (by omega)] at k; cases k
        rw [if_neg (by omega), if_pos (by omega)]
theorem oR {a b : List Int} (h : bM a b = 0) : a = b := by
  unfold bM at h
  split at h
  · cases h
  · split at h
    · cases h
    · rw [gk] at h; exact md h
theorem qV (a b : List Int) : bM b a = - bM a b := by
  unfold bM
  rw [gk, gk, nt a b]
  by_cases h1 : a.length < b.length
  · rw [if_neg (by omega), if_pos h1, if_pos h1]; rfl
  · by_cases h2 : b.length < a.length
    · rw [if_pos h2, if_neg h1, if_pos h2]
    · rw [if_neg h2, if_neg h1, if_neg h1, if_neg h2]
theorem dH {a b c : List Int} (h : bM a b < 0) (k : bM b c < 0) : bM a c < 0 := by
  have e1 : ∀ {x y : List Int}, bM x y < 0 ↔ x.length < y.length ∨ (x.length = y.length ∧ cmr x y = -1) := fun {x y} => by
    unfold bM
    rw [gk]
    have := nJ x y
    by_cases h1 : x.length < y.length
    · rw [if_pos h1]; exact ⟨fun _ => .inl h1, fun _ => by decide⟩
    · rw [if_neg h1]
      by_cases h2 : y.length < x.length
      · rw [if_pos h2]; exact ⟨fun h => by omega, fun h => by omega⟩
      · rw [if_neg h2]; exact ⟨fun h => .inr ⟨by omega, by omega⟩, fun h => by omega⟩
  rw [e1] at h k ⊢
  rcases h with h | ⟨h, h'⟩
  · rcases k with k | ⟨k, _⟩ <;> exact .inl (by omega)
  · rcases k with k | ⟨k, k'⟩
    · exact .inl (by omega)
    · exact .inr ⟨by omega, lc h' k'⟩
theorem re {v w : List Int} : pfB v w = true ↔ cmn v w = w.length := by
  unfold pfB; rw [decide_eq_true_iff]; omega
theorem qJ (v : List Int) : pfB v v = true := re.2 (j4 v)
def gl (X : List TRC) (t : TRC) : Bool := X.any fun u => decide (0 ≤ dfO u t)
def fA (X : List TRC) (t : TRC) : Bool := X.any (fun u => pfB u.1 t.1) || decide (t.1.length = 0)
def dK (X : List TRC) (t : TRC) : List TRC := X.filter fun u => !pfB t.1 u.1
def f0 (X : List TRC) (t : TRC) : List TRC := X.takeWhile (fun u => decide (bM u.1 t.1 < 0)) ++ t :: X.dropWhile (fun u => decide (bM u.1 t.1 < 0))
def fz (X : List TRC) (t : TRC) : List TRC := if fA X t then X else f0 (dK X t) t
def ec (n : Int) (X : List TRC) (t : TRC) : Int := if ¬ prO n t = 0 then prO n t else if gl X t then 13 else 0
def SRT (X : List TRC) : Prop := X.Pairwise fun a b => bM a.1 b.1 < 0
def PFR (X : List TRC) : Prop := ∀ u ∈ X, ∀ v ∈ X, pfB u.1 v.1 = true → u.1.length = v.1.length
theorem m4 (X : List TRC) (t : TRC) : (dK X t).length ≤ X.length := List.length_filter_le ..
theorem oz {α : Type} (p : α → Bool) : ∀ l : List α, (l.takeWhile p).length + (l.dropWhile p).length = l.length
  | [] => rfl
  | a :: l => by
    have := oz p l
    by_cases h : p a = true
    · simp only [List.takeWhile_cons, List.dropWhile_cons, if_pos h, af]; omega
    · simp only [List.takeWhile_cons, List.dropWhile_cons, if_neg h, af, au]; omega
theorem qr (X : List TRC) (t : TRC) : (f0 X t).length = X.length + 1 := by
  unfold f0
  have := oz (fun u : TRC => decide (bM u.1 t.1 < 0)) X
  rw [ag, af]; omega
theorem r7 (X : List TRC) (t : TRC) : (fz X t).length ≤ X.length + 1 := by
  unfold fz
  split
  · omega
  · rw [qr]; have := m4 X t; omega
def plc (X : List TRC) (t : TRC) : Nat := (X.takeWhile (fun u => decide (bM u.1 t.1 < 0))).length
theorem pB (X : List TRC) (t : TRC) : plc X t ≤ X.length := by
  unfold plc; have := oz (fun u : TRC => decide (bM u.1 t.1 < 0)) X; omega
theorem rU (X : List TRC) (t : TRC) : X.take (plc X t) ++ t :: X.drop (plc X t) = f0 X t := by
  have : ∀ (p : TRC → Bool) (l : List TRC), l.take (l.takeWhile p).length = l.takeWhile p ∧ l.drop (l.takeWhile p).length = l.dropWhile p := fun p l => by
    induction l with
    | nil => exact ⟨rfl, rfl⟩
    | cons a l ih =>
      by_cases h : p a = true
      · simp only [List.takeWhile_cons, List.dropWhile_cons, if_pos h, af, aj, List.drop_succ_cons]
        exact ⟨by rw [ih.1], ih.2⟩
      · simp only [List.takeWhile_cons, List.dropWhile_cons, if_neg h, au, List.take_zero, List.drop_zero, and_self]
  unfold plc f0
  rw [(this _ X).1, (this _ X).2]
theorem sX {X : List TRC} {t : TRC} {k : Nat} (h : k < plc X t) : bM (X.getD k aP).1 t.1 < 0 := by
  induction X generalizing k with
  | nil => exact absurd h (by simp [plc])
  | cons a X ih =>
    unfold plc at h
    by_cases q : bM a.1 t.1 < 0
    · simp only [List.takeWhile_cons, decide_eq_true q, if_true, af] at h
      cases k with
      | zero => exact q
      | succ k => exact ih (by unfold plc; omega)
    · simp only [List.takeWhile_cons, decide_eq_false q] at h
      simp at h
theorem tC {X : List TRC} {t : TRC} (h : plc X t < X.length) : ¬ bM (X.getD (plc X t) aP).1 t.1 < 0 := by
  induction X with
  | nil => simp at h
  | cons a X ih =>
    by_cases q : bM a.1 t.1 < 0
    · have e : plc (a :: X) t = plc X t + 1 := by unfold plc; simp only [List.takeWhile_cons, decide_eq_true q, if_true, af]
      rw [e] at h ⊢
      exact ih (by simpa using h)
    · have e : plc (a :: X) t = 0 := by unfold plc; simp only [List.takeWhile_cons, decide_eq_false q]; rfl
      rw [e]; exact q
theorem ig {X : List TRC} (hs : SRT X) {i j : Nat} (hij : i < j) (hj : j < X.length) : bM (X.getD i aP).1 (X.getD j aP).1 < 0 := by
  have := List.pairwise_iff_getElem.1 hs i j (by omega) hj hij
  simpa [List.getD, show i < X.length by omega, hj] using this
theorem tI {X : List TRC} {t : TRC} (hs : SRT X) {i : Nat} (h : ∀ k, k < i → bM (X.getD k aP).1 t.1 < 0) (hi : i ≤ X.length) (h2 : ∀ k, i ≤ k → k < X.length → ¬ bM (X.getD k aP).1 t.1 < 0) : plc X t = i := by
  rcases Nat.lt_trichotomy (plc X t) i with q | q | q
  · exact absurd (h _ q) (tC (by omega))
  · exact q
  · exact absurd (sX q) (h2 i (Nat.le_refl _) (by have := pB X t; omega))
theorem lO {X : List TRC} {t u : TRC} : u ∈ f0 X t ↔ u = t ∨ u ∈ X := by
  unfold f0
  rw [List.mem_append, List.mem_cons]
  have : u ∈ X ↔ u ∈ X.takeWhile (fun u => decide (bM u.1 t.1 < 0)) ∨ u ∈ X.dropWhile (fun u => decide (bM u.1 t.1 < 0)) := by
    rw [← List.mem_append, List.takeWhile_append_dropWhile]
  rw [this]
  constructor
  · rintro (h | h | h)
    · exact .inr (.inl h)
    · exact .inl h
    · exact .inr (.inr h)
  · rintro (h | h | h)
    · exact .inr (.inl h)
    · exact .inl h
    · exact .inr (.inr h)
theorem lq {X : List TRC} {t u : TRC} : u ∈ dK X t ↔ u ∈ X ∧ pfB t.1 u.1 = false := by
  unfold dK; rw [List.mem_filter]; simp
theorem rV {X : List TRC} {t : TRC} (hs : SRT X) (hne : ∀ u ∈ X, u.1 ≠ t.1) : SRT (f0 X t) := by
  induction X with
  | nil => exact List.pairwise_singleton ..
  | cons a X ih =>
    obtain ⟨h1, h2⟩ := List.pairwise_cons.1 hs
    by_cases q : bM a.1 t.1 < 0
    · have e : f0 (a :: X) t = a :: f0 X t := by unfold f0; simp only [List.takeWhile_cons, List.dropWhile_cons, decide_eq_true q, if_true, b0]
      rw [e]
      refine List.pairwise_cons.2 ⟨fun u hu => ?_, ih h2 fun u hu => hne u (aH _ hu)⟩
      rcases lO.1 hu with e | m
      · rw [e]; exact q
      · exact h1 u m
    · have e : f0 (a :: X) t = t :: a :: X := by unfold f0; simp only [List.takeWhile_cons, List.dropWhile_cons, decide_eq_false q]; rfl
      rw [e]
      have hta : bM t.1 a.1 < 0 := by
        have h3 := qV a.1 t.1
        have h4 : ¬ bM a.1 t.1 = 0 := fun h => hne a (aM ..) (oR h)
        omega
      refine List.pairwise_cons.2 ⟨fun u hu => ?_, hs⟩
      rcases List.mem_cons.1 hu with e | m
      · rw [e]; exact hta
      · exact dH hta (h1 u m)
theorem tM {X : List TRC} {t : TRC} (h : fA X t = false) : (∀ u ∈ X, pfB u.1 t.1 = false) ∧ ¬ t.1.length = 0 := by
  unfold fA at h
  obtain ⟨h1, h2⟩ := Bool.or_eq_false_iff.1 h
  exact ⟨fun u hu => by simpa using List.any_eq_false.1 h1 u hu, of_decide_eq_false h2⟩
theorem sk {X : List TRC} {t : TRC} (h : fA X t = false) : ∀ u ∈ X, u.1 ≠ t.1 := fun u hu e => by
  have := (tM h).1 u hu
  rw [e, qJ] at this; cases this
theorem sH {X : List TRC} {t : TRC} (hs : SRT X) : SRT (fz X t) := by
  unfold fz
  split
  · exact hs
  · rename_i h
    have h' : fA X t = false := by simpa using h
    exact rV (hs.filter _) fun u hu => sk h' u (lq.1 hu).1
theorem rB {X : List TRC} {t u : TRC} (h : u ∈ fz X t) : u = t ∨ u ∈ X := by
  unfold fz at h
  split at h
  · exact .inr h
  · exact (lO.1 h).imp id fun h => (lq.1 h).1
def XK (X l : List TRC) (k : Nat) : List TRC := (l.take k).foldl fz X
def d4 (n : Int) (X l : List TRC) (k : Nat) : Int := ec n (XK X l k) (l.getD k aP)
theorem fM {X l : List TRC} {k : Nat} (h : k < l.length) : XK X l (k + 1) = fz (XK X l k) (l.getD k aP) := by
  unfold XK
  have e : l.take (k + 1) = l.take k ++ [l.getD k aP] := by rw [List.take_add_one, List.getElem?_eq_getElem h]; simp [List.getD, h]
  rw [e, List.foldl_append]; rfl
theorem mE {X l : List TRC} : ∀ {k : Nat}, k ≤ l.length → (XK X l k).length ≤ X.length + k
  | 0, _ => Nat.le_refl _
  | k + 1, h => by rw [fM (by omega)]; have := r7 (XK X l k) (l.getD k aP); have := mE (X := X) (l := l) (k := k) (by omega); omega
structure OBI (n : Int) (X : List TRC) : Prop where
  srt : SRT X
  pfr : PFR X
  pr : ∀ u ∈ X, prO n u = 0
theorem sV {n : Int} {X : List TRC} {t : TRC} (h : ec n X t = 0) : prO n t = 0 ∧ gl X t = false := by
  unfold ec at h
  by_cases q : prO n t = 0
  · refine ⟨q, ?_⟩
    rw [if_neg (fun k => k q)] at h
    cases hb : gl X t with
    | false => rfl
    | true => rw [hb] at h; cases h
  · rw [if_pos q] at h; exact absurd h q
theorem tD {n : Int} {X : List TRC} {t : TRC} (h : ¬ prO n t = 0) : ec n X t = prO n t := if_pos h
theorem sI {n : Int} {X : List TRC} {t : TRC} (h : prO n t = 0) (h2 : gl X t = true) : ec n X t = 13 := by unfold ec; rw [if_neg (fun k => k h), if_pos h2]
theorem rn {n : Int} {X : List TRC} {t : TRC} (h : prO n t = 0) (h2 : gl X t = false) : ec n X t = 0 := by unfold ec; rw [if_neg (fun k => k h), h2]; rfl
theorem sF {X : List TRC} {t : TRC} {k : Nat} (hk : k < X.length) (h : 0 ≤ dfO (X.getD k aP) t) : gl X t = true :=
  List.any_eq_true.2 ⟨X.getD k aP, by simp [List.getD, hk], decide_eq_true h⟩
theorem sb {X : List TRC} {t : TRC} (h : ∀ q, q < X.length → ¬ 0 ≤ dfO (X.getD q aP) t) : gl X t = false :=
  List.any_eq_false.2 fun u hu => by
    obtain ⟨i, hi, e⟩ := List.getElem_of_mem hu
    have := h i hi
    simp [List.getD, hi, e] at this
    simpa using this
def gU (X : List TRC) (t : TRC) (k : Nat) : Bool := (X.take k).any fun u => pfB u.1 t.1
theorem jm {X : List TRC} {t : TRC} {k : Nat} (h : k < X.length) : gU X t (k + 1) = (gU X t k || pfB (X.getD k aP).1 t.1) := by
  unfold gU
  have e : X.take (k + 1) = X.take k ++ [X.getD k aP] := by rw [List.take_add_one, List.getElem?_eq_getElem h]; simp [List.getD, h]
  rw [e, List.any_append]; simp
theorem jZ (X : List TRC) (t : TRC) : fA X t = (gU X t X.length || decide (t.1.length = 0)) := by unfold fA gU; rw [aE]
def dJ (p : TRC → Bool) (xs : List TRC) : Int := match xs.findIdx? p with | some i => (i : Int) | none => -1
theorem nD {p : TRC → Bool} {xs : List TRC} {k : Nat} (hk : k < xs.length) (h : ∀ q, q < k → p (xs.getD q aP) = false) (hp : p (xs.getD k aP) = true) : dJ p xs = k := by
  unfold dJ
  have : xs.findIdx? p = some k := by
    rw [List.findIdx?_eq_some_iff_getElem]
    refine ⟨hk, by simpa [List.getD, hk] using hp, fun j hj => ?_⟩
    have := h j hj
    simpa [List.getD, show j < xs.length by omega] using this
  rw [this]
theorem ky {p : TRC → Bool} {xs : List TRC} (h : ∀ q, q < xs.length → p (xs.getD q aP) = false) : dJ p xs = -1 := by
  unfold dJ
  have : xs.findIdx? p = none := by
    rw [List.findIdx?_eq_none_iff]
    intro x hx
    obtain ⟨i, hi, e⟩ := List.getElem_of_mem hx
    have := h i hi
    simpa [List.getD, hi, e] using this
  rw [this]
theorem gZ (p : TRC → Bool) (xs : List TRC) : (∃ k : Nat, dJ p xs = (k : Int) ∧ k < xs.length ∧ (∀ q : Nat, q < k → p (xs.getD q aP) = false) ∧ p (xs.getD k aP) = true) ∨ (dJ p xs = -1 ∧ ∀ q : Nat, q < xs.length → p (xs.getD q aP) = false) := by
  cases h : xs.findIdx? p with
  | none =>
    refine .inr ⟨by unfold dJ; rw [h], fun q hq => ?_⟩
    have := (List.findIdx?_eq_none_iff.1 h) xs[q] (List.getElem_mem hq)
    simpa [List.getD, hq] using this
  | some k =>
    obtain ⟨h1, h2, h3⟩ := List.findIdx?_eq_some_iff_getElem.1 h
    refine .inl ⟨k, by unfold dJ; rw [h], h1, fun q hq => ?_, by simpa [List.getD, h1] using h2⟩
    have := h3 q hq
    simpa [List.getD, show q < xs.length by omega] using this
theorem oW {p : TRC → Bool} {xs : List TRC} (h : dJ p xs = -1) : xs.filter (fun u => !p u) = xs := by
  rcases gZ p xs with ⟨k, e, _⟩ | ⟨_, h2⟩
  · omega
  · refine List.filter_eq_self.2 fun x hx => ?_
    obtain ⟨i, hi, e⟩ := List.getElem_of_mem hx
    have := h2 i hi
    simp [List.getD, hi, e] at this
    simp [this]
structure KEP (p : TRC → Bool) (xs R : List TRC) (i j : Nat) : Prop where
  l : R.length = xs.length
  kk : R.take i = (xs.take j).filter fun u => !p u
  d : R.drop j = xs.drop j
  ij : i < j
  jl : j ≤ xs.length
theorem KEP.start {p : TRC → Bool} {xs : List TRC} {k : Nat} (h : dJ p xs = (k : Int)) : KEP p xs xs k (k + 1) := by
  rcases gZ p xs with ⟨k', e, h1, h2, h3⟩ | ⟨e, _⟩
  · have hkk : k' = k := by omega
    rw [hkk] at h1 h2 h3
    refine ⟨rfl, ?_, rfl, by omega, by omega⟩
    have e : xs.take (k + 1) = xs.take k ++ [xs.getD k aP] := by rw [List.take_add_one, List.getElem?_eq_getElem h1]; simp [List.getD, h1]
    have e2 : (xs.take k).filter (fun u => !p u) = xs.take k := by
      refine List.filter_eq_self.2 fun x hx => ?_
      obtain ⟨i, hi, e⟩ := List.getElem_of_mem hx
      rw [List.length_take] at hi
      have := h2 i (by omega)
      rw [List.getElem_take] at e
      simp [List.getD, show i < xs.length by omega, e] at this
      simp [this]
    rw [e, List.filter_append, e2, List.filter_cons, if_neg (by rw [h3]; decide)]
    simp
  · omega
theorem KEP.at_ {p : TRC → Bool} {xs R : List TRC} {i j : Nat} (h : KEP p xs R i j) (hj : j < xs.length) : R.getD j aP = xs.getD j aP := by
  have := congrArg (fun l => l.getD 0 aP) h.d
  simpa [List.getD, List.getElem?_drop] using this
theorem KEP.no {p : TRC → Bool} {xs R : List TRC} {i j : Nat} (h : KEP p xs R i j) (hj : j < xs.length) (hp : p (xs.getD j aP) = true) : KEP p xs R i (j + 1) := by
  have e : xs.take (j + 1) = xs.take j ++ [xs.getD j aP] := by rw [List.take_add_one, List.getElem?_eq_getElem hj]; simp [List.getD, hj]
  refine ⟨h.l, ?_, ?_, by have := h.ij; omega, by omega⟩
  · rw [e, List.filter_append, h.kk, List.filter_cons, if_neg (by rw [hp]; decide)]; simp
  · have := congrArg (List.drop 1) h.d
    rwa [List.drop_drop, List.drop_drop] at this
theorem KEP.yes {p : TRC → Bool} {xs R : List TRC} {i j : Nat} (h : KEP p xs R i j) (hj : j < xs.length) (hp : p (xs.getD j aP) = false) : KEP p xs (R.set i (xs.getD j aP)) (i + 1) (j + 1) := by
  have e : xs.take (j + 1) = xs.take j ++ [xs.getD j aP] := by rw [List.take_add_one, List.getElem?_eq_getElem hj]; simp [List.getD, hj]
  have hl := h.l
  have hij := h.ij
  refine ⟨by rw [List.length_set]; exact hl, ?_, ?_, by omega, by omega⟩
  · rw [e, List.filter_append, ← h.kk]
    have : (R.set i (xs.getD j aP)).take (i + 1) = R.take i ++ [xs.getD j aP] := by
      rw [List.take_add_one, List.take_set_of_le (Nat.le_refl _)]
      simp [List.getElem?_set, show i < R.length by omega]
    rw [this]
    have hp' : (!p (xs.getD j aP)) = true := by rw [hp]; rfl
    rw [List.filter_cons, if_pos hp']
    rfl
  · rw [List.drop_set_of_lt (by omega)]
    have := congrArg (List.drop 1) h.d
    rwa [List.drop_drop, List.drop_drop] at this
theorem KEP.end_ {p : TRC → Bool} {xs R : List TRC} {i j : Nat} (h : KEP p xs R i j) (hj : j = xs.length) : R.take i = xs.filter fun u => !p u := by
  rw [h.kk, hj, aE]
def dlv (v : Nat) (xs : List TRC) (t : TRC) : Nat := if dJ (fun u => pfB t.1 u.1) xs = -1 then v else v + 1
def adv (v : Nat) (xs : List TRC) (t : TRC) : Nat := if fA xs t then v else dlv v xs t + 1
theorem tZ {v : Nat} {xs : List TRC} {t : TRC} (h : dJ (fun u => pfB t.1 u.1) xs = -1) : dlv v xs t = v ∧ dK xs t = xs := ⟨if_pos h, oW h⟩
theorem tc {v : Nat} {xs : List TRC} {t : TRC} (h : ¬ dJ (fun u => pfB t.1 u.1) xs = -1) : dlv v xs t = v + 1 := if_neg h
theorem tW {v : Nat} {xs : List TRC} {t : TRC} (h : fA xs t = true) : adv v xs t = v ∧ fz xs t = xs := ⟨if_pos h, if_pos h⟩
theorem sZ {v : Nat} {xs : List TRC} {t : TRC} (h : fA xs t = false) : adv v xs t = dlv v xs t + 1 ∧ fz xs t = (dK xs t).take (plc (dK xs t) t) ++ t :: (dK xs t).drop (plc (dK xs t) t) := by
  refine ⟨if_neg (by rw [h]; decide), ?_⟩
  rw [rU]
  exact if_neg (by rw [h]; decide)
theorem su {X : List TRC} {t : TRC} (hs : SRT X) : SRT (dK X t) := hs.filter _
theorem nB {n : Int} {t : TRC} (h : prO n t = 0) : t.1.length ≤ 1024 ∧ t.2.1.length ≤ 1024 := by
  obtain ⟨h1, h2⟩ := t9 h
  have := (ex h1).len
  omega
theorem pW {X l : List TRC} : ∀ {k : Nat}, k ≤ l.length → ∀ u ∈ XK X l k, u ∈ X ∨ ∃ q, q < k ∧ u = l.getD q aP
  | 0, _, u, hu => .inl hu
  | k + 1, hk, u, hu => by
    rw [fM (by omega)] at hu
    rcases rB hu with e | hu
    · exact .inr ⟨k, by omega, e⟩
    · rcases pW (k := k) (by omega) u hu with h | ⟨q, hq, e⟩
      · exact .inl h
      · exact .inr ⟨q, by omega, e⟩
theorem mB {X l : List TRC} (hs : SRT X) : ∀ {k : Nat}, k ≤ l.length → SRT (XK X l k)
  | 0, _ => hs
  | k + 1, hk => by rw [fM (by omega)]; exact sH (mB hs (by omega))
def LB (B : Nat) (X : List TRC) : Prop := ∀ u ∈ X, u.1.length ≤ B ∧ u.2.1.length ≤ B
theorem rh {n : Int} {X l : List TRC} (h : LB 100000 X) {k : Nat} (hk : k ≤ l.length) (hq : ∀ q, q < k → d4 n X l q = 0) : LB 100000 (XK X l k) := fun u hu => by
  rcases pW hk u hu with h1 | ⟨q, hq1, e⟩
  · exact h u h1
  · have := nB (sV (hq q hq1)).1
    rw [e]; omega
theorem LB.get {B : Nat} {X : List TRC} (h : LB B X) {k : Nat} (hk : k < X.length) {a b : List Int} (e : X.getD k aP = (a, (b, ()))) : a.length ≤ B ∧ b.length ≤ B := by
  have := h (X.getD k aP) (by simp [List.getD, hk])
  rw [e] at this; exact this
def gE (n : Int) (X l : List TRC) : Int := bK (d4 n X l) l.length
def jq (n : Int) (X l : List TRC) : List TRC := if gE n X l = 0 then XK X l l.length else X
theorem hD {n : Int} {X l : List TRC} {k : Nat} (hk : k < l.length) (hq : ∀ q, q < k → d4 n X l q = 0) (hb : ¬ d4 n X l k = 0) : gE n X l = d4 n X l k ∧ jq n X l = X := by
  have e : gE n X l = d4 n X l k := da hq hk hb
  exact ⟨e, if_neg (by rw [e]; exact hb)⟩
theorem mQ {n : Int} {X l : List TRC} (hq : ∀ q, q < l.length → d4 n X l q = 0) : gE n X l = 0 ∧ jq n X l = XK X l l.length := by
  have e : gE n X l = 0 := cC hq
  exact ⟨e, if_pos e⟩
theorem se (n : Int) (X : List TRC) (t : TRC) : gE n X [t] = ec n X t ∧ jq n X [t] = if ec n X t = 0 then fz X t else X := by
  have h0 : d4 n X [t] 0 = ec n X t := rfl
  by_cases h : ec n X t = 0
  · obtain ⟨e1, e2⟩ := mQ (n := n) (X := X) (l := [t]) (fun q hq => by
      have : q = 0 := by simpa using hq
      subst this; exact h0.trans h)
    rw [e1, e2, if_pos h]
    exact ⟨h.symm, rfl⟩
  · obtain ⟨e1, e2⟩ := hD (n := n) (X := X) (l := [t]) (k := 0) (by simp) (fun q hq => by omega) (fun q => h (h0.symm.trans q))
    rw [e1, e2, if_neg h]
    exact ⟨h0, rfl⟩
def jn (f : Nat → Int) : Nat → Int
  | 0 => 0
  | n + 1 => if bK f n = 0 then (if f n = 0 then 0 else (n : Int)) else jn f n
theorem p6 {f : Nat → Int} : ∀ {n : Nat}, (∀ i, i < n → f i = 0) → jn f n = 0
  | 0, _ => rfl
  | n + 1, h => by
    have e : bK f n = 0 := cC fun i hi => h i (by omega)
    rw [jn, if_pos e, if_pos (h n (by omega))]
theorem nh {f : Nat → Int} {k : Nat} (h : ∀ i, i < k → f i = 0) (hf : ¬ f k = 0) : ∀ {n : Nat}, k < n → jn f n = k
  | n + 1, hn => by
    by_cases e : k = n
    · subst e
      rw [jn, if_pos (cC h), if_neg hf]
    · rw [jn, if_neg (by rw [da h (show k < n by omega) hf]; exact hf)]
      exact nh h hf (by omega)
theorem jj {l : List TRC} {k : Nat} (h : k < l.length) : l.take (k + 1) = l.take k ++ [l.getD k aP] := by rw [List.take_add_one, List.getElem?_eq_getElem h]; simp [List.getD, h]
/-plain-/
instance (k : IntKind) (n : Int) : Decidable (inK k n) := by unfold inK; infer_instance
structure TB where
  td : Nat → Option TD
  el : Nat → Option EL
  st : Nat → Option (List (Nat × TypeId × Nat) × List AC)
structure TBok (P : Program) (T : TB) : Prop where
  td : ∀ t x, T.td t = some x → aF P t = some x
  el : ∀ t x, T.el t = some x → eC P t = some x
  st : ∀ t x, T.st t = some x → gb P t = some x
section
variable {P : Program} {T : TB} {s : St} {out : Out}
def pu (T : TB) (s : St) (x : Operand) (ats : Array TypeId) : Option Out :=
  match ats[0]? with
  | some t => match ev s.env x with
    | .one (.mpv _) => none
    | .one c => match T.td t, bJ s.L c with
      | some td, some n => if ci td.k c = true then some { av := .one (.int .i64 (n : Int)), fp := dn c } else none
      | _, _ => none
    | _ => none
  | none => none
end
/-plain-/
theorem sW {P : List Bs} {k : Nat} {r : Bs} (h : spB 10 r = P.drop k) (hk : k + 1 ≤ P.length) : ef r 10 = P.getD k [] ∧ o8 r 10 = decide (k + 1 < P.length) ∧ (k + 1 < P.length → spB 10 (d8 r 10) = P.drop (k + 1)) := by
  by_cases q : k + 1 < P.length
  · obtain ⟨h1, h2, h3, h4⟩ := kN h q
    obtain ⟨e1, e2, e3⟩ := mW (s := r) (c := 10) h1
    rw [e1, e2, e3]
    exact ⟨h2, (decide_eq_true q).symm, fun _ => h3⟩
  · obtain ⟨h1, _⟩ := gp h (by omega)
    have h2 : ¬ 0 ≤ Lib.indexByte r 10 := by
      intro q2
      have h3 := jP q2
      have h4 := iJ 10 (r.drop ((Lib.indexByte r 10).toNat + 1))
      rw [h] at h3
      have h5 := congrArg List.length h3
      rw [List.length_drop] at h5
      simp only [af] at h5
      omega
    obtain ⟨e1, e2, e3⟩ := pp (s := r) (c := 10) h2
    rw [e1, e3]
    exact ⟨h1, (decide_eq_false q).symm, fun q2 => absurd q2 q⟩
theorem iH {P : List Bs} {k : Nat} {r : Bs} (h : spB 10 r = P.drop k) (hr : r = []) (hk : k + 1 ≤ P.length) : k + 1 = P.length ∧ P.getD k [] = [] := by
  subst hr
  have h1 := congrArg List.length h
  rw [List.length_drop] at h1
  simp only [spB, af, au] at h1
  refine ⟨by omega, ?_⟩
  have h2 := (gp h (by omega)).1
  exact h2.symm
theorem rX {xs ys : List Bs} {P : List Bs} {k : Nat} {R : List TRC} (hk : k + 1 ≤ P.length) (hl : k + 1 = P.length → ¬ P.getD k [] = [])
    (h : P.length ≤ k + 1 ∨ ¬ skL (P.getD k []) ∧ [] ∈ spB 32 (P.getD k [])) : PGL xs ys (P.drop k) k R = ([], (k : Int) + 1, 5) := by
  by_cases q : k + 1 < P.length
  · rcases h with h | ⟨h1, h2⟩
    · omega
    · rw [cR q h1 (by rw [sA h2]; decide), sA h2]
  · rw [dX (by omega), if_neg (hl (by omega))]
theorem rA {l : Bs} {k n : Nat} (h : ¬ k + 1 < n ∨ (¬ l = [] ∧ ¬ ((l.getD 0 0).toNat : Int) = 35) ∧ ((((l.getD 0 0).toNat : Int) = 32 ∨ du l [32] = true) ∨ Lib.contains l [32, 32] = true)) : n ≤ k + 1 ∨ ¬ skL l ∧ [] ∈ spB 32 l := by
  rcases h with h | ⟨⟨h1, h2⟩, h3⟩
  · exact .inl (by omega)
  · refine .inr ⟨fun q => q.elim h1 fun e => h2 (pq.2 e), (o7 h1).2 (h3.imp (fun q => q.imp (fun e => (ss (s := l) (k := 0)).1 e) id) id)⟩
theorem tt {l : Bs} (hs : ¬ l = [] ∧ ¬ ((l.getD 0 0).toNat : Int) = 35) (h : (l = [] ∨ ((l.getD 0 0).toNat : Int) = 35) ∨ (¬ ((l.getD 0 0).toNat : Int) = 32 ∧ du l [32] = false) ∧ Lib.contains l [32, 32] = false) : [] ∉ spB 32 l := by
  rcases h with h | ⟨⟨h1, h2⟩, h3⟩
  · exact absurd h (fun q => q.elim hs.1 hs.2)
  · intro hm
    rcases (o7 hs.1).1 hm with (q | q) | q
    · exact h1 ((ss (s := l) (k := 0)).2 q)
    · rw [h2] at q; cases q
    · rw [h3] at q; cases q
/-plain-/
def hF (h : PP → PP) (l : List W3) : List PP := l.map fun e => h e.1
structure HOM (A B : STP) (n : Nat) (I : PP → Prop) (h : PP → PP) : Prop where
  cl : ∀ p, I p → ∀ x, x < n → I (A p x)
  eq : ∀ p, I p → ∀ x, x < n → B (h p) x = h (A p x)
/-plain-/
theorem od {l : List TRC} {k : Nat} (h : k < l.length) : l.getD k aP ∈ l := by simp [List.getD, List.getElem?_eq_getElem h]
/-plain-/
/-plain-/
def st1 (xs ys : List Bs) (a o : Int) : Bs := xs.getD a.toNat [] ++ 47 :: ys.getD o.toNat []
def er (xs ys : List Bs) (t : TRC) : List Bs := (List.range t.1.length).map fun i => st1 xs ys (t.1.getD i 0) (t.2.1.getD i 0)
def stP (xs ys : List Bs) (t : TRC) : Nat → Bs
  | 0 => []
  | i + 1 => stP xs ys t i ++ (if 0 < i then [32] else []) ++ st1 xs ys (t.1.getD i 0) (t.2.1.getD i 0)
def lnT (xs ys : List Bs) (t : TRC) : Bs := stP xs ys t t.1.length
def cM (xs ys : List Bs) (l : List TRC) : Bs := ca (l.map (lnT xs ys))
def df (xs ys : List Bs) (l : List TRC) : Int := if ¬ ct xs ys = 0 then ct xs ys else if 10000 < l.length then 11 else if ¬ bK (fun i => bE xs.length ys.length (l.getD i aP)) l.length = 0 then bK (fun i => bE xs.length ys.length (l.getD i aP)) l.length else if 1048576 < (cM xs ys l).length then 3 else 0
def cQ (xs ys : List Bs) (l : List TRC) : Bs := if df xs ys l = 0 then cM xs ys l else []
theorem lr (xs ys : List Bs) (t : TRC) : (er xs ys t).length = t.1.length := by unfold er; simp
theorem ju (sep y : Bs) : ∀ (w : Bs) (ws : List Bs), Lib.join (w :: ws ++ [y]) sep = Lib.join (w :: ws) sep ++ sep ++ y
  | w, [] => by
    show Lib.join [w, y] sep = _
    rw [eY, Lib.join_cons, Lib.join_cons]; simp [Lib.joinTail]
  | w, v :: ws => by
    show Lib.join (w :: v :: (ws ++ [y])) sep = _
    rw [eY, eY]
    have := ju sep y v ws
    rw [b0] at this
    rw [this]
    simp [List.append_assoc]
theorem lx (xs ys : List Bs) (t : TRC) : ∀ i, stP xs ys t i = Lib.join ((List.range i).map fun j => st1 xs ys (t.1.getD j 0) (t.2.1.getD j 0)) [32]
  | 0 => rfl
  | 1 => by
    show [] ++ (if 0 < 0 then [32] else []) ++ st1 xs ys (t.1.getD 0 0) (t.2.1.getD 0 0) = Lib.join [st1 xs ys (t.1.getD 0 0) (t.2.1.getD 0 0)] [32]
    rw [Lib.join_cons]; simp [Lib.joinTail]
  | i + 2 => by
    have ih := lx xs ys t (i + 1)
    show stP xs ys t (i + 1) ++ (if 0 < i + 1 then [32] else []) ++ _ = _
    rw [ih, if_pos (by omega), show List.range (i + 2) = List.range (i + 1) ++ [i + 1] from List.range_succ, List.map_append]
    obtain ⟨w, ws, e⟩ : ∃ w ws, (List.range (i + 1)).map (fun j => st1 xs ys (t.1.getD j 0) (t.2.1.getD j 0)) = w :: ws := by
      rw [List.range_succ_eq_map]; exact ⟨_, _, rfl⟩
    rw [e]
    exact (ju [32] _ w ws).symm
theorem gv (xs ys : List Bs) (t : TRC) : lnT xs ys t = Lib.join (er xs ys t) [32] := lx xs ys t _
theorem kb {s : Bs} (h : ck s = true) : (47 : UInt8) ∉ s := fun hm => by
  have := (cA h).1 _ hm
  exact absurd this (by decide)
theorem ixc {c : UInt8} : ∀ {l s : Bs}, c ∉ l → Lib.indexByte (l ++ c :: s) c = l.length := fun {l s} h => by
  have h1 : 0 ≤ Lib.indexByte (l ++ c :: s) c := by
    rcases (show Lib.indexByte (l ++ c :: s) c < 0 ∨ 0 ≤ Lib.indexByte (l ++ c :: s) c by omega) with q | q
    · exact absurd (show c ∈ l ++ c :: s by simp) (jN q)
    · exact q
  obtain ⟨h2, h3, h4⟩ := gd h1
  have h5 := eX (c := c) s h
  have h6 := jP h1
  rw [h5] at h6
  have h7 := (List.cons.inj h6).1
  have h8 := congrArg List.length h7
  rw [List.length_take] at h8
  omega
theorem tB {x y : Bs} (hx : (47 : UInt8) ∉ x) (hy : (47 : UInt8) ∉ y) : Lib.countByte (x ++ 47 :: y) 47 = 1 ∧ ef (x ++ 47 :: y) 47 = x ∧ d8 (x ++ 47 :: y) 47 = y := by
  have h1 : Lib.indexByte (x ++ 47 :: y) 47 = x.length := ixc hx
  have h2 := hY 47 (x ++ 47 :: y)
  rw [eX y hx, hH hy] at h2
  obtain ⟨e1, e2, _⟩ := mW (s := x ++ 47 :: y) (c := 47) (by omega)
  refine ⟨by simpa using h2.symm, ?_, ?_⟩
  · rw [e1, h1, ae, List.take_left']; rfl
  · rw [e2, h1, ae, List.drop_append]
    simp
theorem kw {xs ys : List Bs} (hx : AOK xs) (hy : AOK ys) {a o : Int} (ha : 0 ≤ a ∧ a < xs.length) (ho : 0 ≤ o ∧ o < ys.length) :
    dj xs ys (st1 xs ys a o) = 0 ∧ idA xs (ef (st1 xs ys a o) 47) = a ∧ idA ys (d8 (st1 xs ys a o) 47) = o ∧ ((32 : UInt8) ∉ st1 xs ys a o ∧ (10 : UInt8) ∉ st1 xs ys a o) ∧ (st1 xs ys a o ≠ [] ∧ (st1 xs ys a o).getD 0 0 ≠ 35) ∧ (st1 xs ys a o).length ≤ 65 := by
  have nx := hx.nm a.toNat (by omega); have ny := hy.nm o.toNat (by omega)
  obtain ⟨c1, c2, c3⟩ := tB (kb nx) (kb ny)
  have mx : xs.getD a.toNat [] ∈ xs := ee (by omega)
  have my : ys.getD o.toNat [] ∈ ys := ee (by omega)
  have sx := cA nx; have sy := cA ny
  refine ⟨jL c1 ⟨by unfold st1; rw [c2]; exact mx, by unfold st1; rw [c3]; exact my⟩, ?_, ?_, ⟨?_, ?_⟩, ⟨?_, ?_⟩, ?_⟩
  · unfold st1 idA; rw [c2, if_pos mx, hx.pos (by omega)]; omega
  · unfold st1 idA; rw [c3, if_pos my, hy.pos (by omega)]; omega
  · unfold st1; rw [List.mem_append, List.mem_cons]; rintro (h | h | h)
    · exact jW nx h
    · cases h
    · exact jW ny h
  · unfold st1; rw [List.mem_append, List.mem_cons]; rintro (h | h | h)
    · exact ld nx h
    · cases h
    · exact ld ny h
  · unfold st1; simp
  · have := rL nx
    unfold st1
    cases hq : xs.getD a.toNat [] with
    | nil => rw [hq] at sx; simp at sx
    | cons b r => rw [hq] at this; simpa using this
  · unfold st1; rw [ag, af]; omega
theorem gh {n m : Int} {t : TRC} (h : bE n m t = 0) : 1 ≤ t.1.length ∧ br t.1 n = 0 ∧ t.2.1.length = t.1.length ∧ ∀ i, i < t.2.1.length → 0 ≤ t.2.1.getD i 0 ∧ t.2.1.getD i 0 < m := by
  unfold bE at h
  split at h
  · cases h
  · rename_i h0
    split at h
    · rename_i h1; exact absurd h h1
    · rename_i h1
      split at h
      · cases h
      · rename_i h2
        split at h
        · cases h
        · rename_i h3
          refine ⟨by omega, by simpa using h1, by omega, fun i hi => ?_⟩
          exact Decidable.byContradiction fun hb => h3 ⟨i, hi, hb⟩
theorem eM {xs ys : List Bs} (hx : AOK xs) (hy : AOK ys) {t : TRC} (h : bE xs.length ys.length t = 0) {y : Bs} (hm : y ∈ er xs ys t) : ((32 : UInt8) ∉ y ∧ (10 : UInt8) ∉ y) ∧ (y ≠ [] ∧ y.getD 0 0 ≠ 35) ∧ y.length ≤ 65 := by
  obtain ⟨h1, h2, h3, h4⟩ := gh h
  unfold er at hm
  obtain ⟨i, hi, rfl⟩ := List.mem_map.1 hm
  have hi := List.mem_range.1 hi
  exact (kw hx hy ((ex h2).sym i hi) (h4 i (by omega))).2.2.2
theorem nC {xs ys : List Bs} (hx : AOK xs) (hy : AOK ys) {t : TRC} (h : bE xs.length ys.length t = 0) : spB 32 (lnT xs ys t) = er xs ys t ∧ (10 : UInt8) ∉ lnT xs ys t ∧ ¬ skL (lnT xs ys t) ∧ eR xs ys (lnT xs ys t) = 0 ∧ gi xs ys (lnT xs ys t) = t := by
  obtain ⟨h1, h2, h3, h4⟩ := gh h
  have hw := ex h2
  have hl := lr xs ys t
  obtain ⟨w, ws, e⟩ : ∃ w ws, er xs ys t = w :: ws := by
    cases q : er xs ys t with
    | nil => rw [q] at hl; simp at hl; omega
    | cons w ws => exact ⟨w, ws, rfl⟩
  have hs : spB 32 (lnT xs ys t) = er xs ys t := by
    rw [gv, e]
    exact kM fun y hy' => (eM hx hy h (by rw [e]; exact hy')).1.1
  have hg : ∀ i, i < t.1.length → (er xs ys t).getD i [] = st1 xs ys (t.1.getD i 0) (t.2.1.getD i 0) := fun i hi => by
    unfold er; simp [List.getD, hi]
  have hE : eR xs ys (lnT xs ys t) = 0 := by
    refine iD (by rw [hs, hl]; have := hw.len; omega) fun q hq => ?_
    rw [hs] at hq ⊢
    rw [hg q (by omega)]
    exact (kw hx hy (hw.sym q (by omega)) (h4 q (by omega))).1
  refine ⟨hs, ?_, ?_, hE, ?_⟩
  · rw [gv]
    intro hm
    have : ∀ (ws : List Bs), (∀ y, y ∈ ws → (10 : UInt8) ∉ y) → (10 : UInt8) ∉ Lib.join ws [32] := fun ws => by
      induction ws with
      | nil => intro _ hm; cases hm
      | cons w ws ih =>
        intro hq hm
        cases ws with
        | nil =>
          rw [Lib.join_cons] at hm
          simp [Lib.joinTail] at hm
          exact hq w (aM ..) hm
        | cons v ws =>
          rw [eY] at hm
          rcases List.mem_append.1 hm with hm | hm
          · rcases List.mem_append.1 hm with hm | hm
            · exact hq w (aM ..) hm
            · simp at hm
          · exact ih (fun y hy => hq y (aH _ hy)) hm
    exact this _ (fun y hy' => (eM hx hy h hy').1.2) hm
  · have hm := eM hx hy h (y := w) (by rw [e]; exact aM ..)
    rw [gv, e, Lib.join_cons]
    rintro (hk | hk)
    · exact hm.2.1.1 (List.append_eq_nil_iff.1 hk).1
    · cases w with
      | nil => exact hm.2.1.1 rfl
      | cons b r => exact hm.2.1.2 (by simpa using hk)
  · rw [iL hE, hs]
    obtain ⟨a, o, u⟩ := t
    have e1 : gc xs (er xs ys (a, o, u)) = a := by
      unfold gc er
      rw [List.map_map]
      refine List.ext_getElem (by simp) fun i hi1 hi2 => ?_
      have := (kw hx hy (hw.sym i hi2) (h4 i (by show i < o.length; have h9 : o.length = a.length := h3; omega))).2.1
      simp only [List.getElem_map, List.getElem_range, Function.comp]
      rw [this]; simp [List.getD, hi2]
    have e2 : gg ys (er xs ys (a, o, u)) = o := by
      unfold gg er
      rw [List.map_map]
      refine List.ext_getElem (by simpa using h3.symm) fun i hi1 hi2 => ?_
      have := (kw hx hy (hw.sym i (by have h9 : o.length = a.length := h3; show i < a.length; omega)) (h4 i hi2)).2.2.1
      simp only [List.getElem_map, List.getElem_range, Function.comp]
      rw [this]; simp [List.getD, hi2]
    rw [e1, e2]
theorem fJ {xs ys : List Bs} (h : ct xs ys = 0) : AOK xs ∧ AOK ys := by
  unfold ct at h
  split at h
  · rename_i h1; exact ⟨pC h1, pC h⟩
  · rename_i h1; exact absurd h h1
structure ShOK (xs ys : List Bs) (l : List TRC) : Prop where
  b : ct xs ys = 0
  n : l.length ≤ 10000
  p : ∀ i, i < l.length → bE xs.length ys.length (l.getD i aP) = 0
  z : (cM xs ys l).length ≤ 1048576
theorem nu {xs ys : List Bs} {l : List TRC} (h : df xs ys l = 0) : ShOK xs ys l := by
  unfold df at h
  split at h
  · rename_i h1; exact absurd h h1
  · rename_i h1
    split at h
    · cases h
    · split at h
      · rename_i h3; exact absurd h h3
      · rename_i h3
        split at h
        · cases h
        · refine ⟨by simpa using h1, by omega, ?_, by omega⟩
          intro i hi
          refine Decidable.byContradiction fun hb => ?_
          obtain ⟨k, hk, hk1, hk2⟩ : ∃ k, k < l.length ∧ (∀ q, q < k → bE xs.length ys.length (l.getD q aP) = 0) ∧ ¬ bE xs.length ys.length (l.getD k aP) = 0 := by
            have : ∀ n, n ≤ l.length → (∀ q, q < n → bE xs.length ys.length (l.getD q aP) = 0) ∨ ∃ k, k < n ∧ (∀ q, q < k → bE xs.length ys.length (l.getD q aP) = 0) ∧ ¬ bE xs.length ys.length (l.getD k aP) = 0 := fun n => by
              induction n with
              | zero => intro _; exact .inl fun q hq => by omega
              | succ n ih =>
                intro hn
                rcases ih (by omega) with q | ⟨k, hk, h1, h2⟩
                · by_cases e : bE xs.length ys.length (l.getD n aP) = 0
                  · refine .inl fun p hp => ?_
                    by_cases e2 : p = n
                    · rw [e2]; exact e
                    · exact q p (by omega)
                  · exact .inr ⟨n, by omega, q, e⟩
                · exact .inr ⟨k, by omega, h1, h2⟩
            rcases this l.length (Nat.le_refl _) with q | q
            · exact absurd (q i hi) hb
            · exact q
          have e := da (f := fun i => bE xs.length ys.length (l.getD i aP)) hk1 hk hk2
          exact h3 (by rw [e]; exact hk2)
theorem ShOK.e {xs ys : List Bs} {l : List TRC} (h : ShOK xs ys l) : df xs ys l = 0 ∧ cQ xs ys l = cM xs ys l := by
  have e : df xs ys l = 0 := by
    have h1 : bK (fun i => bE xs.length ys.length (l.getD i aP)) l.length = 0 := cC h.p
    unfold df
    rw [if_neg (fun k => k h.b), if_neg (by have := h.n; omega), if_neg (fun k => k h1), if_neg (by have := h.z; omega)]
  exact ⟨e, if_pos e⟩
theorem nf {xs ys : List Bs} {l : List TRC} (h : ¬ df xs ys l = 0) : cQ xs ys l = [] := if_neg h
theorem ShOK.lines {xs ys : List Bs} {l : List TRC} (h : ShOK xs ys l) : ∀ y, y ∈ l.map (lnT xs ys) → (10 : UInt8) ∉ y := fun y hy => by
  obtain ⟨t, ht, rfl⟩ := List.mem_map.1 hy
  obtain ⟨i, hi, e⟩ := List.getElem_of_mem ht
  have h1 := h.p i hi
  have : l.getD i aP = t := by simp [List.getD, hi, e]
  rw [this] at h1
  obtain ⟨hx, hy⟩ := fJ h.b
  exact (nC hx hy h1).2.1
theorem i3 {xs ys : List Bs} (hx : AOK xs) (hy : AOK ys) : ∀ (l : List TRC) (L : List Bs) (k : Nat) (R : List TRC), L ≠ [] → (∀ t, t ∈ l → bE xs.length ys.length t = 0) → R.length + l.length ≤ 10000 →
    PGL xs ys (l.map (lnT xs ys) ++ L) k R = PGL xs ys L (k + l.length) (R ++ l)
  | [], L, k, R, _, _, _ => by simp
  | t :: l, L, k, R, hL, hp, hn => by
    obtain ⟨h1, h2, h3, h4, h5⟩ := nC hx hy (hp t (aM ..))
    obtain ⟨a, B, e⟩ : ∃ a B, l.map (lnT xs ys) ++ L = a :: B := by
      cases q : l.map (lnT xs ys) ++ L with
      | nil => exact absurd (List.append_eq_nil_iff.1 q).2 hL
      | cons a B => exact ⟨a, B, rfl⟩
    have hnil : [] ∉ spB 32 (lnT xs ys t) := by
      rw [h1]; intro hm; exact (eM hx hy (hp t (aM ..)) hm).2.1.1 rfl
    have hz : lnL xs ys R.length (lnT xs ys t) = 0 := by
      rw [af] at hn
      rw [dx hnil (by omega), h4]
    have ih := i3 hx hy l L (k + 1) (R ++ [t]) hL (fun u hu => hp u (aH _ hu)) (by have hn9 := hn; rw [af] at hn9; rw [ag]; show R.length + 1 + l.length ≤ 10000; omega)
    rw [aR, b0, e]
    show (if skL (lnT xs ys t) then _ else if lnL xs ys R.length (lnT xs ys t) = 0 then PGL xs ys (a :: B) (k + 1) (R ++ [gi xs ys (lnT xs ys t)]) else _) = _
    rw [if_neg h3, if_pos hz, h5, ← e, ih]
    rw [af, List.append_assoc, show k + 1 + l.length = k + (l.length + 1) by omega]; rfl
theorem ShOK.all {xs ys : List Bs} {l : List TRC} (h : ShOK xs ys l) : ∀ t, t ∈ l → bE xs.length ys.length t = 0 := fun t ht => by
  obtain ⟨i, hi, e⟩ := List.getElem_of_mem ht
  have h1 := h.p i hi
  have : l.getD i aP = t := by simp [List.getD, hi, e]
  rw [this] at h1; exact h1
theorem qZ {xs ys : List Bs} {l : List TRC} (h : ShOK xs ys l) : PG xs ys (cM xs ys l) = (l, 0, 0) := by
  obtain ⟨hx, hy⟩ := fJ h.b
  rw [rH h.b (by have := h.z; omega), List.drop_zero]
  unfold cM
  rw [gO h.lines, i3 hx hy l [[]] 0 [] (by simp) h.all (by have := h.n; simp; omega)]
  simp [PGL]
theorem sB {xs ys : List Bs} {l m : List TRC} (h : ShOK xs ys l) (k : ShOK xs ys m) (hn : l.length + m.length ≤ 10000) (hz : (cM xs ys l).length + (cM xs ys m).length ≤ 1000000) : PG xs ys (cM xs ys l ++ [35, 10, 10] ++ cM xs ys m) = (l ++ m, 0, 0) := by
  obtain ⟨hx, hy⟩ := fJ h.b
  have e : cM xs ys l ++ [35, 10, 10] ++ cM xs ys m = ca (l.map (lnT xs ys) ++ ([[35], []] ++ m.map (lnT xs ys))) := by
    rw [fw, fw]
    have : ca [[35], []] = [35, 10, 10] := rfl
    rw [this, List.append_assoc]; rfl
  rw [rH h.b (by simp only [ag, af, au]; omega), List.drop_zero, e]
  rw [gO (fun y hy' => by
    rcases List.mem_append.1 hy' with q | q
    · exact h.lines y q
    · rcases List.mem_append.1 q with q | q
      · rcases List.mem_cons.1 q with rfl | q
        · decide
        · rw [List.mem_singleton.1 q]; decide
      · exact k.lines y q)]
  rw [List.append_assoc, List.append_assoc, i3 hx hy l _ 0 [] (by simp) h.all (by simp; omega)]
  rw [aD]
  show PGL xs ys ([35] :: [] :: (m.map (lnT xs ys) ++ [[]])) (0 + l.length) l = _
  obtain ⟨a, B, e2⟩ : ∃ a B, m.map (lnT xs ys) ++ [[]] = a :: B := by
    cases q : m.map (lnT xs ys) ++ [[]] with
    | nil => simp at q
    | cons a B => exact ⟨a, B, rfl⟩
  have s1 : PGL xs ys ([35] :: [] :: (m.map (lnT xs ys) ++ [[]])) (0 + l.length) l = PGL xs ys ([] :: (m.map (lnT xs ys) ++ [[]])) (0 + l.length + 1) l := by
    show (if skL [35] then _ else _) = _
    rw [if_pos (.inr rfl)]
  have s2 : PGL xs ys ([] :: (m.map (lnT xs ys) ++ [[]])) (0 + l.length + 1) l = PGL xs ys (m.map (lnT xs ys) ++ [[]]) (0 + l.length + 1 + 1) l := by
    rw [e2]
    show (if skL [] then _ else _) = _
    rw [if_pos (.inl rfl)]
  rw [s1, s2, i3 hx hy m [[]] _ l (by simp) k.all (by omega)]
  simp [PGL]
theorem kB {B : Nat} : ∀ {ws : List Bs}, (∀ y, y ∈ ws → y.length ≤ B) → (Lib.join ws [32]).length ≤ ws.length * (B + 1)
  | [], _ => by simp [Lib.join]
  | [w], h => by
    rw [Lib.join_cons]
    have := h w (aM ..)
    simp [Lib.joinTail]; omega
  | w :: v :: ws, h => by
    rw [eY]
    have h1 := h w (aM ..)
    have h2 := kB (ws := v :: ws) fun y hy => h y (aH _ hy)
    have e : (w :: v :: ws).length * (B + 1) = (v :: ws).length * (B + 1) + (B + 1) := by rw [af, Nat.add_mul]; omega
    simp only [ag, af, au] at h2 e ⊢
    omega
theorem lR {xs ys : List Bs} {l : List TRC} (h : ShOK xs ys l) (hg : grL l = false) : (cM xs ys l).length ≤ 100000 := by
  obtain ⟨hx, hy⟩ := fJ h.b
  obtain ⟨g1, g2⟩ := mf hg
  have h1 : ∀ y, y ∈ l.map (lnT xs ys) → y.length ≤ 2640 := fun y hy' => by
    obtain ⟨t, ht, rfl⟩ := List.mem_map.1 hy'
    have hp := h.all t ht
    obtain ⟨i, hi, e⟩ := List.getElem_of_mem ht
    have h2 := (g2 i hi).1
    have e2 : l.getD i aP = t := by simp [List.getD, hi, e]
    rw [e2] at h2
    have h3 := kB (B := 65) fun y hy' => (eM hx hy hp hy').2.2
    rw [← gv, lr] at h3
    have : t.1.length * (65 + 1) ≤ 40 * 66 := Nat.mul_le_mul_right _ h2
    omega
  have h2 := kO h1
  rw [bP] at h2
  have : l.length * (2640 + 1) ≤ 30 * 2641 := Nat.mul_le_mul_right _ g1
  unfold cM
  omega
/-plain-/
def d5 (xs ys : List Bs) (l : List TRC) (k : Nat) : Bs := ca ((l.take k).map (lnT xs ys))
theorem kx {xs ys : List Bs} {l : List TRC} {k : Nat} (h : k < l.length) : d5 xs ys l (k + 1) = d5 xs ys l k ++ lnT xs ys (l.getD k aP) ++ [10] := by
  unfold d5; rw [jj h, List.map_append]; exact nU _ _
theorem qo (xs ys : List Bs) (l : List TRC) : d5 xs ys l l.length = cM xs ys l := by unfold d5 cM; rw [aE]
theorem fS (xs ys : List Bs) (l : List TRC) (k : Nat) : (d5 xs ys l k).length ≤ (cM xs ys l).length := by
  unfold d5 cM; rw [List.map_take]; exact jS _ _
theorem pb (xs ys : List Bs) (t : TRC) (i : Nat) : stP xs ys t (i + 1) = stP xs ys t i ++ (if 0 < i then [32] else []) ++ st1 xs ys (t.1.getD i 0) (t.2.1.getD i 0) := rfl
theorem i5 {xs ys : List Bs} (hx : AOK xs) (hy : AOK ys) {t : TRC} (h : bE xs.length ys.length t = 0) : ∀ {j : Nat}, j ≤ t.1.length → (stP xs ys t j).length ≤ 66 * j
  | 0, _ => Nat.le_refl _
  | j + 1, hj => by
    have ih := i5 hx hy h (j := j) (by omega)
    obtain ⟨h1, h2, h3, h4⟩ := gh h
    have h5 := (kw hx hy ((ex h2).sym j (by omega)) (h4 j (by omega))).2.2.2.2.2
    rw [pb, ag, ag]
    split
    · simp only [af, au]; omega
    · simp only [au]; omega
theorem lM {xs ys : List Bs} (hx : AOK xs) (hy : AOK ys) {l : List TRC} : ∀ {k : Nat}, k ≤ l.length → (∀ q, q < k → bE xs.length ys.length (l.getD q aP) = 0) → (d5 xs ys l k).length ≤ 67585 * k
  | 0, _, _ => Nat.le_refl _
  | k + 1, hk, hq => by
    have ih := lM hx hy (l := l) (k := k) (by omega) fun q hq2 => hq q (by omega)
    have hp := hq k (by omega)
    have h1 := i5 hx hy hp (Nat.le_refl _)
    have h2 := (ex (gh hp).2.1).len
    rw [kx (by omega), ag, ag]
    have h3 : (lnT xs ys (l.getD k aP)).length ≤ 66 * (l.getD k aP).1.length := h1
    simp only [af, au]
    omega
theorem l9 {xs ys : List Bs} {l : List TRC} (h : ¬ ct xs ys = 0) : df xs ys l = ct xs ys ∧ cQ xs ys l = [] := by
  have e : df xs ys l = ct xs ys := if_pos h
  exact ⟨e, if_neg (by rw [e]; exact h)⟩
theorem ip {xs ys : List Bs} {l : List TRC} (h : ct xs ys = 0) (h2 : 10000 < l.length) : df xs ys l = 11 ∧ cQ xs ys l = [] := by
  have e : df xs ys l = 11 := by unfold df; rw [if_neg (fun k => k h), if_pos h2]
  exact ⟨e, if_neg (by rw [e]; decide)⟩
theorem l6 {xs ys : List Bs} {l : List TRC} (h : ct xs ys = 0) (h2 : ¬ 10000 < l.length) {k : Nat} (hk : k < l.length) (hq : ∀ q, q < k → bE xs.length ys.length (l.getD q aP) = 0) (hb : ¬ bE xs.length ys.length (l.getD k aP) = 0) :
    df xs ys l = bE xs.length ys.length (l.getD k aP) ∧ cQ xs ys l = [] := by
  have h3 := da (f := fun i => bE xs.length ys.length (l.getD i aP)) hq hk hb
  have e : df xs ys l = bE xs.length ys.length (l.getD k aP) := by unfold df; rw [if_neg (fun k => k h), if_neg h2, if_pos (by rw [h3]; exact hb), h3]
  exact ⟨e, if_neg (by rw [e]; exact hb)⟩
theorem ko {xs ys : List Bs} {l : List TRC} (h : ct xs ys = 0) (h2 : ¬ 10000 < l.length) (hq : ∀ q, q < l.length → bE xs.length ys.length (l.getD q aP) = 0) (hz : 1048576 < (cM xs ys l).length) : df xs ys l = 3 ∧ cQ xs ys l = [] := by
  have h3 : bK (fun i => bE xs.length ys.length (l.getD i aP)) l.length = 0 := cC hq
  have e : df xs ys l = 3 := by unfold df; rw [if_neg (fun k => k h), if_neg h2, if_neg (fun k => k h3), if_pos hz]
  exact ⟨e, if_neg (by rw [e]; decide)⟩
theorem kl {xs ys : List Bs} {l : List TRC} (h : ct xs ys = 0) (h2 : ¬ 10000 < l.length) (hq : ∀ q, q < l.length → bE xs.length ys.length (l.getD q aP) = 0) (hz : ¬ 1048576 < (cM xs ys l).length) : df xs ys l = 0 ∧ cQ xs ys l = cM xs ys l :=
  ShOK.e ⟨h, by omega, hq, by omega⟩
end Go.AV
namespace Go.Proofs.YtfakhaagbimljaaDoor
open Go Go.AV
open Nat renaming reduceEqDiff → J, reduceAdd → D, reduceLeDiff → M, reduceLT → U, reduceMul → O, reduceSub → S
open List renaming set_cons_zero → bG, set_cons_succ → bH, getD_cons_zero → ad, length_append → ag, map_cons → aR, cons_append → b0, map_nil → bf, length_cons → af, nil_append → aD, take_succ_cons → aj, length_nil → au, length_map → bP, length_replicate → bm, take_length → aE, mem_cons_self → aM, mem_cons_of_mem → aH
open Int renaming toNat_natCast → ae
theorem zT : type_of% (And.intro Tryd.el22 (And.intro Tryd.el27 (And.intro Tryd.el43 (And.intro Tryd.el76 (And.intro Tryd.st24 (And.intro Tryd.st47 (And.intro Tryd.st56 (And.intro Tryd.st60 (And.intro Tryd.st78 (And.intro Tryd.td1 (And.intro Tryd.td103 (And.intro Tryd.td104 (And.intro Tryd.td122 (And.intro Tryd.td126 (And.intro Tryd.td2 (And.intro Tryd.td21 (And.intro Tryd.td22 (And.intro Tryd.td24 (And.intro Tryd.td27 (And.intro Tryd.td28 (And.intro Tryd.td3 (And.intro Tryd.td4 (And.intro Tryd.td43 (And.intro Tryd.td47 (And.intro Tryd.td5 (And.intro Tryd.td56 (And.intro Tryd.td60 (And.intro Tryd.td75 (And.intro Tryd.td76 (And.intro Tryd.td78 (And.intro Tryd.td9 Tryd.td99))))))))))))))))))))))))))))))) :=
  And.intro Tryd.el22 (And.intro Tryd.el27 (And.intro Tryd.el43 (And.intro Tryd.el76 (And.intro Tryd.st24 (And.intro Tryd.st47 (And.intro Tryd.st56 (And.intro Tryd.st60 (And.intro Tryd.st78 (And.intro Tryd.td1 (And.intro Tryd.td103 (And.intro Tryd.td104 (And.intro Tryd.td122 (And.intro Tryd.td126 (And.intro Tryd.td2 (And.intro Tryd.td21 (And.intro Tryd.td22 (And.intro Tryd.td24 (And.intro Tryd.td27 (And.intro Tryd.td28 (And.intro Tryd.td3 (And.intro Tryd.td4 (And.intro Tryd.td43 (And.intro Tryd.td47 (And.intro Tryd.td5 (And.intro Tryd.td56 (And.intro Tryd.td60 (And.intro Tryd.td75 (And.intro Tryd.td76 (And.intro Tryd.td78 (And.intro Tryd.td9 Tryd.td99))))))))))))))))))))))))))))))
/- MaxLen's cell holds some number; lg6Th -/
def MXL (o : Obj) : Prop := ∃ (m : Int) (t : TypeId) (z : Nat × Nat), o = .cells #[.int .i64 m] t z
open Go.Shelf in
def Tryd.lays144_ren : Go.Shelf.Ren := ⟨fun | 144 => 28 | 143 => 50 | 219 => 68 | 217 => 82 | 225 => 83 | 224 => 84 | 267 => 85 | 266 => 98 | 314 => 99 | n => n, fun | 9 => 9 | 4 => 4 | 3 => 3 | 5 => 5 | 46 => 122 | 146 => 132 | 51 => 131 | n => n, fun | 1 => 0 | n => n⟩
theorem Tryd.lays144 : Go.Proofs.Lays.n144 Tryd.prog Tryd.lays144_ren := {
  mixed := by kernel_rfl,
  f143 := Tryd.func50.trans (congrArg some (by kernel_rfl)),
  f144 := Tryd.func28.trans (congrArg some (by kernel_rfl)),
  f217 := Tryd.func82.trans (congrArg some (by kernel_rfl)),
  f219 := Tryd.func68.trans (congrArg some (by kernel_rfl)),
  f224 := Tryd.func84.trans (congrArg some (by kernel_rfl)),
  f225 := Tryd.func83.trans (congrArg some (by kernel_rfl)),
  f266 := Tryd.func98.trans (congrArg some (by kernel_rfl)),
  f267 := Tryd.func85.trans (congrArg some (by kernel_rfl)),
  f314 := Tryd.func99.trans (congrArg some (by kernel_rfl)),
  t3 := Tryd.underlying3,
  a3 := Tryd.isAgg3,
  z3 := Tryd.sizeOf3,
  v3 := Tryd.zeroValue3,
  t4 := Tryd.underlying4,
  a4 := Tryd.isAgg4,
  z4 := Tryd.sizeOf4,
  v4 := Tryd.zeroValue4,
  t5 := Tryd.underlying5,
  a5 := Tryd.isAgg5,
  z5 := Tryd.sizeOf5,
  v5 := Tryd.zeroValue5,
  t9 := Tryd.underlying9,
  a9 := Tryd.isAgg9,
  z9 := Tryd.sizeOf9,
  v9 := Tryd.zeroValue9,
  t46 := Tryd.underlying122,
  a46 := Tryd.isAgg122,
  z46 := Tryd.sizeOf122,
  v46 := Tryd.zeroValue122,
  t51 := Tryd.underlying131,
  a51 := Tryd.isAgg131,
  z51 := Tryd.sizeOf131,
  v51 := Tryd.zeroValue131,
  t146 := Tryd.underlying132,
  a146 := Tryd.isAgg132,
  z146 := Tryd.sizeOf132,
  v146 := Tryd.zeroValue132,
  g1 := by kernel_rfl }
theorem o5 {o : Obj} (hm : MXL o) (s : Bs) (hs : s.length ≤ 1000000000) : cr Tryd.prog [.fact 0 o] 28 [.one (.str s), .one (.str [32, 32])] { av := .one (.bool (Lib.contains s [32, 32])), fp := [0] } := by
  refine ⟨⟨Tryd.f28, Tryd.func28, by kernel_rfl, by kernel_rfl⟩, fun C L σ w vs hP hi ha hfp hlen => ?_⟩
  match vs, ha with
  | [v1, v2], ⟨h1, h2, _⟩ =>
  have e1 : v1 = .string ⟨s.toArray⟩ := h1.2
  have e2 : v2 = .string ⟨([32, 32] : Bs).toArray⟩ := h2.2
  subst e1
  subst e2
  obtain ⟨m, t, z, hx⟩ := hm
  have hL : L[0]? = some (.fact 0 o) := hfp 0 (List.mem_singleton.2 rfl)
  have hob := (hi.ob 0 _ hL).1
  have hc : w.cell? ⟨0, 0, none⟩ = some (.int .i64 m) := by
    rw [hx] at hob
    simp [World.cell?, hob]
  refine Calls.mono (Any.strings_Contains Tryd.lays144 ⟨s.toArray⟩ ⟨([32, 32] : Bs).toArray⟩ m w (by show s.toArray.size < _; simp; omega) hc) fun e w' hh => ?_
  obtain ⟨e3, e4⟩ := hh
  subst e4
  exact ⟨_, e3, ep hi (Nat.le_refl _) rfl rfl rfl (fun _ _ => rfl) fun _ _ => ⟨rfl, rfl⟩⟩
theorem kU (xs : List Bs) : aW Tryd.prog 8 [.agg [.list .str xs]] (.one (.bool (grB xs))) := by
 refine aA Tryd.func8 rfl (by kernel_rfl) (Nat.le_of_ble_eq_true rfl) rfl fun C hP hN hB => ?_
 replace hN : C.N = 26 := hN
 simp only [aL, D]
 refine Z fun _ k1 => ?_
 refine a9 hP hN rfl ?_
 iterate 2 (refine V rfl fun _ k0 => ?_; simp only [zO, zT, acs, reduceCtorEq, J, D, M, U, O, S]; (repeat refine an ?_); (try refine .inl ?_); apply k0; clear k0; simp only [zP, D])
 refine aa ?_
 apply k1; clear k1; refine kp [0, 1, 2] ?_
 refine Z fun _ k2 => ?_
 refine Z fun _ k3 => ?_
 refine a9 hP hN rfl ?_
 (refine V rfl fun _ k0 => ?_; simp only [zO, zT, acs, reduceCtorEq, J, D, M, U, O, S]; (repeat refine an ?_); (try refine .inl ?_); apply k0; clear k0; simp only [zP, D])
 refine aa ?_
 apply k3; clear k3; refine kp [0, 1, 2, 3] ?_
 refine az ?_
 refine aX (fun n4 s4 => ∃ (k : Nat), (k ≤ xs.length) ∧ (∀ q, q < k → (xs.getD q []).length ≤ 100) ∧ (k ≤ 71) ∧ n4 = xs.length - k ∧ s4 = { env := [(1, .one (.ptr 0 0 0 0)), (2, .one (.bool false)), (3, .one (.int .i64 (k : Int)))], L := [.vars 24 [.list .str xs]] }) ?_ ?_
 ·exact ⟨_, _, aw [1, 2, 3], 0, Nat.zero_le _, fun q hq => by omega, by omega, rfl, rfl⟩
 rintro n4 s4 ⟨k, hk, hq, hk7, rfl, rfl⟩
 refine Z fun _ k5 => ?_
 refine Z fun _ k6 => ?_
 refine a9 hP hN rfl ?_
 iterate 6 (refine V rfl fun _ k0 => ?_; simp only [zO, zT, acs, reduceCtorEq, J, D, M, U, O, S]; (repeat refine an ?_); (try refine .inl ?_); apply k0; clear k0; simp only [zP, D])
 refine' aC (want := true) 2 rfl (m := 9) (by simp only [zP, J, D]; exact rfl) (by kernel_rfl) rfl rfl rfl rfl rfl (fun hg7 => ?a7) ?b7 ?c7
 case a7 =>
  have hq7 := hg7; (try simp only [zB, reduceCtorEq] at hg7); simp only [zE]
  iterate 2 (refine aO rfl fun _ k0 => ?_; simp only [zO, zT, acs, reduceCtorEq, J, D, M, U, O, S]; (repeat refine an ?_); (try refine .inl ?_); apply k0; clear k0; simp only [zP, D])
  (refine V rfl fun _ k0 => ?_; simp only [zO, zT, acs, reduceCtorEq, J, D, M, U, O, S]; (repeat refine an ?_); (try refine .inl ?_); apply k0; clear k0; simp only [zP, D])
  refine aa ?_
  refine ⟨by simp only [zP, J, D]; exact rfl, rfl, ?_, rfl⟩; (repeat refine aB rfl ?_); exact aQ (by exact rfl) hq7
 case b7 => exact bg
 simp only [aN, aG]
 refine aa ?_
 apply k6; clear k6; refine kp [1, 2, 3, 12] ?_
 refine cd (fun hc8 => ?_) (fun hc8 => ?_)
 ·(try simp only [zB, reduceCtorEq] at hc8)
  refine am ?_
  apply k5; clear k5; refine kp [1, 2, 3, 12] ?_
  refine Z fun _ k9 => ?_
  refine az ?_
  refine Z fun _ k10 => ?_
  refine a9 hP hN rfl ?_
  iterate 7 (refine V rfl fun _ k0 => ?_; simp only [zO, zT, acs, reduceCtorEq, J, D, M, U, O, S]; (repeat refine an ?_); (try refine .inl ?_); apply k0; clear k0; simp only [zP, D])
  refine aa ?_
  apply k10; clear k10; refine kp [1, 2, 3, 12, 21] ?_
  refine cd (fun hc11 => ?_) (fun hc11 => ?_)
  ·(try simp only [zB, reduceCtorEq] at hc11)
   refine Z fun _ k12 => ?_
   refine a9 hP hN rfl ?_
   (refine V rfl fun _ k0 => ?_; simp only [zO, zT, acs, reduceCtorEq, J, D, M, U, O, S]; (repeat refine an ?_); (try refine .inl ?_); apply k0; clear k0; simp only [zP, D])
   refine aa ?_
   apply k12; clear k12; refine kp [1, 2, 3, 12, 21] ?_
   refine ak ?_
   refine ⟨nr, _, rfl, ?_⟩; simp only [zF, zP, J, D]
   refine VLE.of_eq ?_
   refine congrArg (fun b => AV.one (AC.bool b)) ?_
   symm
   first
   | exact tR (k := k) (by omega) (by omega) (by omega)
   | exact tP (k := k) (by omega) hq
  (try simp only [zB, reduceCtorEq] at hc11)
  refine am ?_
  apply k9; clear k9; refine kp [1, 2, 3, 12, 21] ?_
  refine a9 hP hN rfl ?_
  iterate 3 (refine V rfl fun _ k0 => ?_; simp only [zO, zT, acs, reduceCtorEq, J, D, M, U, O, S]; (repeat refine an ?_); (try refine .inl ?_); apply k0; clear k0; simp only [zP, D])
  refine aa ?_
  refine ⟨_, _, ?_, aw [1, 2, 3], k + 1, by omega, fun q hq2 => ?_, by omega, rfl, rfl⟩
  · omega
  · by_cases e : q = k
    · rw [e]; omega
    · exact hq q (by omega)
 (try simp only [zB, reduceCtorEq] at hc8)
 refine aV ?_
 apply k2; clear k2; refine kp [1, 2, 3, 12] ?_
 refine Z fun _ k13 => ?_
 refine a9 hP hN rfl ?_
 iterate 5 (refine V rfl fun _ k0 => ?_; simp only [zO, zT, acs, reduceCtorEq, J, D, M, U, O, S]; (repeat refine an ?_); (try refine .inl ?_); apply k0; clear k0; simp only [zP, D])
 refine aa ?_
 apply k13; clear k13; refine kp [1, 2, 3, 12] ?_
 refine ak ?_
 refine ⟨nr, _, rfl, ?_⟩; simp only [zF, zP, J, D]
 refine VLE.of_eq ?_
 refine congrArg (fun b => AV.one (AC.bool b)) ?_
 symm
 first
 | exact tR (k := k) (by omega) (by omega) (by omega)
 | exact tP (k := k) (by omega) hq
theorem tT (a b : List Int) : aW Tryd.prog 39 [.one (.list (.int .i64) a), .one (.list (.int .i64) b)] (.one (.int .i64 (cmn a b : Int))) := by
 refine aA Tryd.func39 rfl (by kernel_rfl) (Nat.le_of_ble_eq_true rfl) rfl fun C hP hN hB => ?_
 replace hN : C.N = 30 := hN
 simp only [aL, D]
 refine cO 0 rfl fun hf0 => ?_; simp only [lkp, if_true, if_false, reduceCtorEq, J, eq_self, Nat.one_ne_zero, Nat.zero_ne_one, eT, eu, eD, Fit, and_true, implies_true, true_and] at hf0
 refine Z fun _ k1 => ?_
 refine a9 hP hN rfl ?_
 (refine V rfl fun _ k0 => ?_; simp only [zO, zT, acs, reduceCtorEq, J, D, M, U, O, S]; (repeat refine an ?_); (try refine .inl ?_); apply k0; clear k0; simp only [zP, D])
 refine aa ?_
 apply k1; clear k1; refine kp [0, 1, 4] ?_
 refine Z fun _ k2 => ?_
 refine a9 hP hN rfl ?_
 (refine V rfl fun _ k0 => ?_; simp only [zO, zT, acs, reduceCtorEq, J, D, M, U, O, S]; (repeat refine an ?_); (try refine .inl ?_); apply k0; clear k0; simp only [zP, D])
 refine aa ?_
 apply k2; clear k2; refine kp [0, 1, 4, 5] ?_
 refine Z fun _ k3 => ?_
 refine az ?_
 refine aX (fun n4 s4 => ∃ (k : Nat), (k ≤ a.length) ∧ (k ≤ b.length) ∧ (∀ q, q < k → a.getD q 0 = b.getD q 0) ∧ n4 = a.length - k ∧ s4 = { env := [(0, .one (.list (.int .i64) a)), (1, .one (.list (.int .i64) b)), (4, .one (.int .i64 0)), (5, .one (.int .i64 (k : Int)))], L := [] }) ?_ ?_
 ·exact ⟨_, _, aw [0, 1, 4, 5], 0, Nat.zero_le _, Nat.zero_le _, fun q hq => by omega, rfl, rfl⟩
 rintro n4 s4 ⟨k, hk, hkb, hq, rfl, rfl⟩
 refine Z fun _ k5 => ?_
 refine Z fun _ k6 => ?_
 refine bV hP hN Tryd.mixed rfl ?_
 iterate 5 (refine V rfl fun _ k0 => ?_; simp only [zO, zT, acs, reduceCtorEq, J, D, M, U, O, S]; (repeat refine an ?_); (try refine .inl ?_); apply k0; clear k0; simp only [zP, D])
 refine' aC (want := true) 4 rfl (m := 10) (by simp only [zP, J, D]; exact rfl) (by kernel_rfl) rfl rfl rfl rfl rfl (fun hg7 => ?a7) ?b7 ?c7
 case a7 =>
  have hq7 := hg7; (try simp only [zB, reduceCtorEq] at hg7); simp only [zE]
  iterate 4 (refine aO rfl fun _ k0 => ?_; simp only [zO, zT, acs, reduceCtorEq, J, D, M, U, O, S]; (repeat refine an ?_); (try refine .inl ?_); apply k0; clear k0; simp only [zP, D])
  (refine V rfl fun _ k0 => ?_; simp only [zO, zT, acs, reduceCtorEq, J, D, M, U, O, S]; (repeat refine an ?_); (try refine .inl ?_); apply k0; clear k0; simp only [zP, D])
  refine aa ?_
  refine ⟨by simp only [zP, J, D]; exact rfl, rfl, ?_, rfl⟩; (repeat refine aB rfl ?_); exact aQ (by exact rfl) hq7
 case b7 => exact bg
 simp only [aN, aG]
 (refine V rfl fun _ k0 => ?_; simp only [zO, zT, acs, reduceCtorEq, J, D, M, U, O, S]; (repeat refine an ?_); (try refine .inl ?_); apply k0; clear k0; simp only [zP, D])
 refine' aC (want := true) 9 rfl (m := 16) (by simp only [zP, J, D]; exact rfl) (by kernel_rfl) rfl rfl rfl rfl rfl (fun hg8 => ?a8) ?b8 ?c8
 case a8 =>
  have hq8 := hg8; (try simp only [zB, reduceCtorEq] at hg8); simp only [zE]
  iterate 9 (refine aO rfl fun _ k0 => ?_; simp only [zO, zT, acs, reduceCtorEq, J, D, M, U, O, S]; (repeat refine an ?_); (try refine .inl ?_); apply k0; clear k0; simp only [zP, D])
  (refine V rfl fun _ k0 => ?_; simp only [zO, zT, acs, reduceCtorEq, J, D, M, U, O, S]; (repeat refine an ?_); (try refine .inl ?_); apply k0; clear k0; simp only [zP, D])
  refine aa ?_
  refine ⟨by simp only [zP, J, D]; exact rfl, rfl, ?_, rfl⟩; (repeat refine aB rfl ?_); exact aQ (by exact rfl) hq8
 case b8 => exact bg
 simp only [aN, aG]
 refine aa ?_
 refine ⟨by kernel_rfl, ?_⟩
 apply k6; clear k6; refine kp [0, 1, 4, 5, 26] ?_
 refine cd (fun hc9 => ?_) (fun hc9 => ?_)
 ·(try simp only [zB, reduceCtorEq] at hc9)
  have h3 : k < a.length ∧ k < b.length ∧ a.getD k 0 = b.getD k 0 := by have h9 := hc9; omega
  refine am ?_
  apply k5; clear k5; refine kp [0, 1, 4, 5, 26] ?_
  refine az ?_
  refine a9 hP hN rfl ?_
  iterate 3 (refine V rfl fun _ k0 => ?_; simp only [zO, zT, acs, reduceCtorEq, J, D, M, U, O, S]; (repeat refine an ?_); (try refine .inl ?_); apply k0; clear k0; simp only [zP, D])
  refine aa ?_
  refine ⟨_, _, ?_, aw [0, 1, 4, 5], k + 1, by omega, by omega, fun q hq2 => ?_, rfl, rfl⟩
  · omega
  · by_cases e : q = k
    · rw [e]; exact h3.2.2
    · exact hq q (by omega)
 (try simp only [zB, reduceCtorEq] at hc9)
 have hs : ¬ (k < a.length ∧ k < b.length ∧ a.getD k 0 = b.getD k 0) := by have h9 := hc9; omega
 refine aV ?_
 apply k3; clear k3; refine kp [0, 1, 4, 5, 26] ?_
 refine Z fun _ k10 => ?_
 refine a9 hP hN rfl ?_
 iterate 2 (refine V rfl fun _ k0 => ?_; simp only [zO, zT, acs, reduceCtorEq, J, D, M, U, O, S]; (repeat refine an ?_); (try refine .inl ?_); apply k0; clear k0; simp only [zP, D])
 refine aa ?_
 apply k10; clear k10; refine kp [0, 1, 4, 5, 26] ?_
 refine ak ?_
 refine ⟨nr, _, rfl, ?_⟩; simp only [zF, zP, J, D]
 refine VLE.of_eq ?_
 refine congrArg (fun n => AV.one (AC.int IntKind.i64 n)) ?_
 rw [dR hq hk hkb hs]
theorem mz (a b : List Int) : aW Tryd.prog 16 [.one (.list (.int .i64) a), .one (.list (.int .i64) b)] (.one (.bool (decide (a = b)))) := by
 refine aA Tryd.func16 rfl (by kernel_rfl) (Nat.le_of_ble_eq_true rfl) rfl fun C hP hN hB => ?_
 replace hN : C.N = 18 := hN
 simp only [aL, D]
 refine Z fun _ k1 => ?_
 refine a9 hP hN rfl ?_
 (refine V rfl fun _ k0 => ?_; simp only [zO, zT, acs, reduceCtorEq, J, D, M, U, O, S]; (repeat refine an ?_); (try refine .inl ?_); apply k0; clear k0; simp only [zP, D])
 refine aa ?_
 apply k1; clear k1; refine kp [0, 1, 4] ?_
 refine Z fun _ k2 => ?_
 refine a9 hP hN rfl ?_
 iterate 6 (refine V rfl fun _ k0 => ?_; simp only [zO, zT, acs, reduceCtorEq, J, D, M, U, O, S]; (repeat refine an ?_); (try refine .inl ?_); apply k0; clear k0; simp only [zP, D])
 refine' aC (want := true) 6 rfl (m := 10) (by simp only [zP, J, D]; exact rfl) (by kernel_rfl) rfl rfl rfl rfl rfl (fun hg3 => ?a3) ?b3 ?c3
 case a3 =>
  have hq3 := hg3; (try simp only [zB, reduceCtorEq] at hg3); simp only [zE]
  iterate 2 (refine aO rfl fun _ k0 => ?_; simp only [zO, zT, acs, reduceCtorEq, J, D, M, U, O, S]; (repeat refine an ?_); (try refine .inl ?_); apply k0; clear k0; simp only [zP, D])
  refine aO rfl fun _ k0 => ?_
  refine ar (h := ah (tT a b)) rfl rfl (by first | exact rfl | (simp only [ev, zP, J, D]; exact rfl)) (by simp only [zV, acs, reduceCtorEq, J, D, M, U, O, S]) ?_
  apply k0; clear k0; simp only [zP, D]
  iterate 3 (refine aO rfl fun _ k0 => ?_; simp only [zO, zT, acs, reduceCtorEq, J, D, M, U, O, S]; (repeat refine an ?_); (try refine .inl ?_); apply k0; clear k0; simp only [zP, D])
  (refine V rfl fun _ k0 => ?_; simp only [zO, zT, acs, reduceCtorEq, J, D, M, U, O, S]; (repeat refine an ?_); (try refine .inl ?_); apply k0; clear k0; simp only [zP, D])
  refine aa ?_
  refine ⟨by simp only [zP, J, D]; exact rfl, rfl, ?_, rfl⟩; (repeat refine aB rfl ?_); exact aQ (by exact rfl) hq3
 case b3 => exact bg
 simp only [aN, aG]
 (refine V rfl fun _ k0 => ?_; simp only [zO, zT, acs, reduceCtorEq, J, D, M, U, O, S]; (repeat refine an ?_); (try refine .inl ?_); apply k0; clear k0; simp only [zP, D])
 refine aa ?_
 apply k2; clear k2; refine kp [0, 1, 4] ?_
 refine ak ?_
 refine ⟨nr, _, rfl, ?_⟩; simp only [zF, zP, J, D]
 refine VLE.of_eq ?_
 refine congrArg (fun b => AV.one (AC.bool b)) ?_
 exact qv a b
theorem ri (x y : Int) : aW Tryd.prog 108 [.one (.list (.int .i64) [x, y])] (.one (.int .i64 (orI x y))) := by
 refine aA Tryd.func108 rfl (by kernel_rfl) (Nat.le_of_ble_eq_true rfl) rfl fun C hP hN hB => ?_
 replace hN : C.N = 18 := hN
 simp only [aL, D]
 refine Z fun _ k1 => ?_
 refine a9 hP hN rfl ?_
 (refine V rfl fun _ k0 => ?_; simp only [zO, zT, acs, reduceCtorEq, J, D, M, U, O, S, af, au]; (repeat refine an ?_); (try refine .inl ?_); apply k0; clear k0; simp only [zP, D])
 refine aa ?_
 apply k1; clear k1; refine kp [0, 2] ?_
 refine Z fun _ k2 => ?_
 refine a9 hP hN rfl ?_
 (refine V rfl fun _ k0 => ?_; simp only [zO, zT, acs, reduceCtorEq, J, D, M, U, O, S, af, au]; (repeat refine an ?_); (try refine .inl ?_); apply k0; clear k0; simp only [zP, D])
 refine aa ?_
 apply k2; clear k2; refine kp [0, 2, 3] ?_
 refine Z fun _ k3 => ?_
 refine Z fun _ k4 => ?_
 refine a9 hP hN rfl ?_
 iterate 3 (refine V rfl fun _ k0 => ?_; simp only [zO, zT, acs, reduceCtorEq, J, D, M, U, O, S, af, au]; (repeat refine an ?_); (try refine .inl ?_); apply k0; clear k0; simp only [zP, D])
 refine aa ?_
 apply k4; clear k4; refine kp [0, 2, 3, 6, 7, 8] ?_
 refine az ?_
 refine aX (fun n5 s5 => ∃ (k : Nat), (k ≤ 2) ∧ (∀ q, q < k → [x, y].getD q 0 = 0) ∧ n5 = 2 - k ∧ s5 = { env := [(2, .one (.int .i64 0)), (3, .one (.int .i64 0)), (6, .one (.list (.int .i64) [x, y])), (7, .one (.int .i64 2)), (8, .one (.int .i64 (k : Int)))], L := [] }) ?_ ?_
 ·exact ⟨_, _, aw [2, 3, 6, 7, 8], 0, by omega, fun q hq => by omega, rfl, rfl⟩
 rintro n5 s5 ⟨k, hk, hq, rfl, rfl⟩
 refine Z fun _ k6 => ?_
 refine a9 hP hN rfl ?_
 (refine V rfl fun _ k0 => ?_; simp only [zO, zT, acs, reduceCtorEq, J, D, M, U, O, S, af, au]; (repeat refine an ?_); (try refine .inl ?_); apply k0; clear k0; simp only [zP, D])
 refine aa ?_
 apply k6; clear k6; refine kp [2, 3, 6, 7, 8, 9] ?_
 refine Z fun _ k7 => ?_
 refine cd (fun hc8 => ?_) (fun hc8 => ?_)
 ·(try simp only [zB, reduceCtorEq] at hc8)
  refine am ?_
  apply k7; clear k7; refine kp [2, 3, 6, 7, 8, 9] ?_
  refine Z fun _ k9 => ?_
  refine az ?_
  refine Z fun _ k10 => ?_
  refine a9 hP hN rfl ?_
  iterate 3 (refine V rfl fun _ k0 => ?_; simp only [zO, zT, acs, reduceCtorEq, J, D, M, U, O, S, af, au]; (repeat refine an ?_); (try refine .inl ?_); apply k0; clear k0; simp only [zP, D])
  refine aa ?_
  apply k10; clear k10; refine kp [2, 3, 5, 6, 7, 8, 9] ?_
  refine Z fun _ k11 => ?_
  refine a9 hP hN rfl ?_
  iterate 3 (refine V rfl fun _ k0 => ?_; simp only [zO, zT, acs, reduceCtorEq, J, D, M, U, O, S, af, au]; (repeat refine an ?_); (try refine .inl ?_); apply k0; clear k0; simp only [zP, D])
  refine aa ?_
  apply k11; clear k11; refine kp [2, 3, 5, 6, 7, 8, 9, 14] ?_
  refine cd (fun hc12 => ?_) (fun hc12 => ?_)
  ·(try simp only [zB, reduceCtorEq] at hc12)
   have h1 := hc12
   refine Z fun _ k13 => ?_
   refine a9 hP hN rfl ?_
   iterate 2 (refine V rfl fun _ k0 => ?_; simp only [zO, zT, acs, reduceCtorEq, J, D, M, U, O, S, af, au]; (repeat refine an ?_); (try refine .inl ?_); apply k0; clear k0; simp only [zP, D])
   refine aa ?_
   apply k13; clear k13; refine kp [2, 3, 5, 6, 7, 8, 9, 14] ?_
   refine ak ?_
   refine ⟨nr, _, rfl, ?_⟩; simp only [zF, zP, J, D, af, au]
   refine VLE.of_eq ?_
   refine congrArg (fun n => AV.one (AC.int IntKind.i64 n)) ?_
   unfold orI
   first
   | (have hk3 : k = 0 ∨ k = 1 := by omega
      rcases hk3 with rfl | rfl
      · have h9 : ¬ x = 0 := by simpa using h1
        rw [if_pos h9]; rfl
      · have h8 : x = 0 := by simpa using hq 0 (by omega)
        rw [if_neg (fun k => k h8)]; rfl)
   | (subst hk2
      have h8 : x = 0 := by simpa using hq 0 (by omega)
      have h9 : y = 0 := by simpa using hq 1 (by omega)
      rw [if_neg (fun k => k h8), h9])
  (try simp only [zB, reduceCtorEq] at hc12)
  have h1 := hc12
  refine am ?_
  apply k9; clear k9; refine kp [2, 3, 5, 6, 7, 8, 9, 14] ?_
  refine a9 hP hN rfl ?_
  iterate 2 (refine V rfl fun _ k0 => ?_; simp only [zO, zT, acs, reduceCtorEq, J, D, M, U, O, S, af, au]; (repeat refine an ?_); (try refine .inl ?_); apply k0; clear k0; simp only [zP, D])
  refine aa ?_
  refine ⟨_, _, ?_, aw [2, 3, 6, 7, 8], k + 1, by omega, fun q hq2 => ?_, rfl, rfl⟩
  · omega
  · by_cases e : q = k
    · rw [e]; omega
    · exact hq q (by omega)
 (try simp only [zB, reduceCtorEq] at hc8)
 refine aV ?_
 apply k3; clear k3; refine kp [2, 3, 6, 7, 8, 9] ?_
 refine Z fun _ k14 => ?_
 have hk2 : k = 2 := by omega
 refine a9 hP hN rfl ?_
 iterate 2 (refine V rfl fun _ k0 => ?_; simp only [zO, zT, acs, reduceCtorEq, J, D, M, U, O, S, af, au]; (repeat refine an ?_); (try refine .inl ?_); apply k0; clear k0; simp only [zP, D])
 refine aa ?_
 apply k14; clear k14; refine kp [2, 3, 6, 7, 8, 9] ?_
 refine ak ?_
 refine ⟨nr, _, rfl, ?_⟩; simp only [zF, zP, J, D, af, au]
 refine VLE.of_eq ?_
 refine congrArg (fun n => AV.one (AC.int IntKind.i64 n)) ?_
 unfold orI
 first
 | (have hk3 : k = 0 ∨ k = 1 := by omega
    rcases hk3 with rfl | rfl
    · have h9 : ¬ x = 0 := by simpa using h1
      rw [if_pos h9]; rfl
    · have h8 : x = 0 := by simpa using hq 0 (by omega)
      rw [if_neg (fun k => k h8)]; rfl)
 | (subst hk2
    have h8 : x = 0 := by simpa using hq 0 (by omega)
    have h9 : y = 0 := by simpa using hq 1 (by omega)
    rw [if_neg (fun k => k h8), h9])
theorem nY (x : Int) : aW Tryd.prog 112 [.one (.int .i64 x)] (.one (.bool false)) := by
 refine aA Tryd.func112 rfl (by kernel_rfl) (Nat.le_of_ble_eq_true rfl) rfl fun C hP hN hB => ?_
 replace hN : C.N = 6 := hN
 simp only [aL, D]
 refine Z fun _ k1 => ?_
 refine a9 hP hN rfl ?_
 (refine V rfl fun _ k0 => ?_; simp only [zO, zT, acs, reduceCtorEq, J, D, M, U, O, S]; (repeat refine an ?_); (try refine .inl ?_); apply k0; clear k0; simp only [zP, D])
 refine aa ?_
 apply k1; clear k1; refine kp [0, 2] ?_
 refine Z fun _ k2 => ?_
 refine a9 hP hN rfl ?_
 iterate 4 (refine V rfl fun _ k0 => ?_; simp only [zO, zT, acs, reduceCtorEq, J, D, M, U, O, S]; (repeat refine an ?_); (try refine .inl ?_); apply k0; clear k0; simp only [zP, D])
 refine aa ?_
 apply k2; clear k2; refine kp [0, 2] ?_
 refine ak ?_
 refine ⟨nr, _, rfl, ?_⟩; simp only [zF, zP, J, D]
 refine VLE.of_eq ?_
 simp
theorem pK (x y : Int) : aW Tryd.prog 109 [.one (.int .i64 x), .one (.int .i64 y)] (.one (.int .i64 (dG x y))) := by
 refine aA Tryd.func109 rfl (by kernel_rfl) (Nat.le_of_ble_eq_true rfl) rfl fun C hP hN hB => ?_
 replace hN : C.N = 20 := hN
 simp only [aL, D]
 refine Z fun _ k1 => ?_
 refine a9 hP hN rfl ?_
 (refine V rfl fun _ k0 => ?_; simp only [zO, zT, acs, reduceCtorEq, J, D, M, U, O, S]; (repeat refine an ?_); (try refine .inl ?_); apply k0; clear k0; simp only [zP, D])
 refine aa ?_
 apply k1; clear k1; refine kp [0, 1, 4] ?_
 refine Z fun _ k2 => ?_
 refine a9 hP hN rfl ?_
 (refine V rfl fun _ k0 => ?_; simp only [zO, zT, acs, reduceCtorEq, J, D, M, U, O, S]; (repeat refine an ?_); (try refine .inl ?_); apply k0; clear k0; simp only [zP, D])
 refine V rfl fun _ k0 => ?_
 refine ar (h := ah (nY x)) rfl rfl (by first | exact rfl | (simp only [ev, zP, J, D]; exact rfl)) (by simp only [zV, acs, reduceCtorEq, J, D, M, U, O, S]) ?_
 apply k0; clear k0; simp only [zP, D]
 (refine V rfl fun _ k0 => ?_; simp only [zO, zT, acs, reduceCtorEq, J, D, M, U, O, S]; (repeat refine an ?_); (try refine .inl ?_); apply k0; clear k0; simp only [zP, D])
 refine aa ?_
 apply k2; clear k2; refine kp [0, 1, 4, 5] ?_
 refine Z fun _ k3 => ?_
 refine a9 hP hN rfl ?_
 (refine V rfl fun _ k0 => ?_; simp only [zO, zT, acs, reduceCtorEq, J, D, M, U, O, S]; (repeat refine an ?_); (try refine .inl ?_); apply k0; clear k0; simp only [zP, D])
 refine V rfl fun _ k0 => ?_
 refine ar (h := ah (nY y)) rfl rfl (by first | exact rfl | (simp only [ev, zP, J, D]; exact rfl)) (by simp only [zV, acs, reduceCtorEq, J, D, M, U, O, S]) ?_
 apply k0; clear k0; simp only [zP, D]
 (refine V rfl fun _ k0 => ?_; simp only [zO, zT, acs, reduceCtorEq, J, D, M, U, O, S]; (repeat refine an ?_); (try refine .inl ?_); apply k0; clear k0; simp only [zP, D])
 refine aa ?_
 apply k3; clear k3; refine kp [0, 1, 4, 5, 6] ?_
 refine Z fun _ k4 => ?_
 refine Z fun _ k5 => ?_
 refine a9 hP hN rfl ?_
 (refine V rfl fun _ k0 => ?_; simp only [zO, zT, acs, reduceCtorEq, J, D, M, U, O, S]; (repeat refine an ?_); (try refine .inl ?_); apply k0; clear k0; simp only [zP, D])
 refine aa ?_
 apply k5; clear k5; refine kp [0, 1, 4, 5, 6, 11] ?_
 refine cd (fun hc6 => ?_) (fun hc6 => ?_)
 · exfalso; (try simp only [zB, reduceCtorEq] at hc6); all_goals (first | (cases hc6; done) | omega | (simp at hc6; done) | (simp_all; done))
 (try simp only [zB, reduceCtorEq] at hc6)
 refine am ?_
 apply k4; clear k4; refine kp [0, 1, 4, 5, 6, 11] ?_
 refine Z fun _ k7 => ?_
 refine Z fun _ k8 => ?_
 refine a9 hP hN rfl ?_
 (refine V rfl fun _ k0 => ?_; simp only [zO, zT, acs, reduceCtorEq, J, D, M, U, O, S]; (repeat refine an ?_); (try refine .inl ?_); apply k0; clear k0; simp only [zP, D])
 refine aa ?_
 apply k8; clear k8; refine kp [0, 1, 4, 5, 6, 11, 13] ?_
 refine cd (fun hc9 => ?_) (fun hc9 => ?_)
 · exfalso; (try simp only [zB, reduceCtorEq] at hc9); all_goals (first | (cases hc9; done) | omega | (simp at hc9; done) | (simp_all; done))
 (try simp only [zB, reduceCtorEq] at hc9)
 refine am ?_
 apply k7; clear k7; refine kp [0, 1, 4, 5, 6, 11, 13] ?_
 refine Z fun _ k10 => ?_
 refine Z fun _ k11 => ?_
 refine a9 hP hN rfl ?_
 iterate 3 (refine V rfl fun _ k0 => ?_; simp only [zO, zT, acs, reduceCtorEq, J, D, M, U, O, S]; (repeat refine an ?_); (try refine .inl ?_); apply k0; clear k0; simp only [zP, D])
 refine aa ?_
 apply k11; clear k11; refine kp [0, 1, 4, 5, 6, 11, 13, 16] ?_
 refine cd (fun hc12 => ?_) (fun hc12 => ?_)
 ·(try simp only [zB, reduceCtorEq] at hc12)
  have h1 := hc12
  refine Z fun _ k13 => ?_
  refine a9 hP hN rfl ?_
  (refine V rfl fun _ k0 => ?_; simp only [zO, zT, acs, reduceCtorEq, J, D, M, U, O, S]; (repeat refine an ?_); (try refine .inl ?_); apply k0; clear k0; simp only [zP, D])
  refine aa ?_
  apply k13; clear k13; refine kp [0, 1, 4, 5, 6, 11, 13, 16] ?_
  refine ak ?_
  refine ⟨nr, _, rfl, ?_⟩; simp only [zF, zP, J, D]
  refine VLE.of_eq ?_
  refine congrArg (fun n => AV.one (AC.int IntKind.i64 n)) ?_
  unfold dG
  first
  | (rw [if_pos (by omega)]; done)
  | (rw [if_neg (by omega), if_pos (by omega)]; done)
  | (rw [if_neg (by omega), if_neg (by omega)]; done)
 (try simp only [zB, reduceCtorEq] at hc12)
 have h1 := hc12
 refine am ?_
 apply k10; clear k10; refine kp [0, 1, 4, 5, 6, 11, 13, 16] ?_
 refine Z fun _ k14 => ?_
 refine Z fun _ k15 => ?_
 refine a9 hP hN rfl ?_
 iterate 3 (refine V rfl fun _ k0 => ?_; simp only [zO, zT, acs, reduceCtorEq, J, D, M, U, O, S]; (repeat refine an ?_); (try refine .inl ?_); apply k0; clear k0; simp only [zP, D])
 refine aa ?_
 apply k15; clear k15; refine kp [0, 1, 4, 5, 6, 11, 13, 16, 19] ?_
 refine cd (fun hc16 => ?_) (fun hc16 => ?_)
 ·(try simp only [zB, reduceCtorEq] at hc16)
  have h2 := hc16
  refine Z fun _ k17 => ?_
  refine a9 hP hN rfl ?_
  (refine V rfl fun _ k0 => ?_; simp only [zO, zT, acs, reduceCtorEq, J, D, M, U, O, S]; (repeat refine an ?_); (try refine .inl ?_); apply k0; clear k0; simp only [zP, D])
  refine aa ?_
  apply k17; clear k17; refine kp [0, 1, 4, 5, 6, 11, 13, 16, 19] ?_
  refine ak ?_
  refine ⟨nr, _, rfl, ?_⟩; simp only [zF, zP, J, D]
  refine VLE.of_eq ?_
  refine congrArg (fun n => AV.one (AC.int IntKind.i64 n)) ?_
  unfold dG
  first
  | (rw [if_pos (by omega)]; done)
  | (rw [if_neg (by omega), if_pos (by omega)]; done)
  | (rw [if_neg (by omega), if_neg (by omega)]; done)
 (try simp only [zB, reduceCtorEq] at hc16)
 have h2 := hc16
 refine am ?_
 apply k14; clear k14; refine kp [0, 1, 4, 5, 6, 11, 13, 16, 19] ?_
 refine Z fun _ k18 => ?_
 refine a9 hP hN rfl ?_
 (refine V rfl fun _ k0 => ?_; simp only [zO, zT, acs, reduceCtorEq, J, D, M, U, O, S]; (repeat refine an ?_); (try refine .inl ?_); apply k0; clear k0; simp only [zP, D])
 refine aa ?_
 apply k18; clear k18; refine kp [0, 1, 4, 5, 6, 11, 13, 16, 19] ?_
 refine ak ?_
 refine ⟨nr, _, rfl, ?_⟩; simp only [zF, zP, J, D]
 refine VLE.of_eq ?_
 refine congrArg (fun n => AV.one (AC.int IntKind.i64 n)) ?_
 unfold dG
 first
 | (rw [if_pos (by omega)]; done)
 | (rw [if_neg (by omega), if_pos (by omega)]; done)
 | (rw [if_neg (by omega), if_neg (by omega)]; done)
theorem nQ (v w : List Int) : aW Tryd.prog 110 [.one (.list (.int .i64) v), .one (.list (.int .i64) w)] (.one (.int .i64 (dv v w))) := by
 refine aA Tryd.func110 rfl (by kernel_rfl) (Nat.le_of_ble_eq_true rfl) rfl fun C hP hN hB => ?_
 replace hN : C.N = 36 := hN
 simp only [aL, D]
 refine cO 0 rfl fun hf0 => ?_; simp only [lkp, if_true, if_false, reduceCtorEq, J, eq_self, Nat.one_ne_zero, Nat.zero_ne_one, eT, eu, eD, Fit, and_true, implies_true, true_and] at hf0; refine cO 1 rfl fun hf1 => ?_; simp only [lkp, if_true, if_false, reduceCtorEq, J, eq_self, Nat.one_ne_zero, Nat.zero_ne_one, eT, eu, eD, Fit, and_true, implies_true, true_and] at hf1
 refine Z fun _ k1 => ?_
 refine a9 hP hN rfl ?_
 (refine V rfl fun _ k0 => ?_; simp only [zO, zT, acs, reduceCtorEq, J, D, M, U, O, S]; (repeat refine an ?_); (try refine .inl ?_); apply k0; clear k0; simp only [zP, D])
 refine aa ?_
 apply k1; clear k1; refine kp [0, 1, 4] ?_
 refine Z fun _ k2 => ?_
 refine Z fun _ k3 => ?_
 refine a9 hP hN rfl ?_
 iterate 3 (refine V rfl fun _ k0 => ?_; simp only [zO, zT, acs, reduceCtorEq, J, D, M, U, O, S]; (repeat refine an ?_); (try refine .inl ?_); apply k0; clear k0; simp only [zP, D])
 refine aa ?_
 apply k3; clear k3; refine kp [0, 1, 4, 9, 10, 11] ?_
 refine az ?_
 refine aX (fun n4 s4 => ∃ (k : Nat), (k ≤ v.length) ∧ (k ≤ w.length) ∧ (∀ q, q < k → v.getD q 0 = w.getD q 0) ∧ n4 = v.length - k ∧ s4 = { env := [(0, .one (.list (.int .i64) v)), (1, .one (.list (.int .i64) w)), (4, .one (.int .i64 0)), (9, .one (.list (.int .i64) v)), (10, .one (.int .i64 (v.length : Int))), (11, .one (.int .i64 (k : Int)))], L := [] }) ?_ ?_
 ·exact ⟨_, _, aw [0, 1, 4, 9, 10, 11], 0, Nat.zero_le _, Nat.zero_le _, fun q hq => by omega, rfl, rfl⟩
 rintro n4 s4 ⟨k, hk, hkw, hq, rfl, rfl⟩
 refine Z fun _ k5 => ?_
 refine a9 hP hN rfl ?_
 (refine V rfl fun _ k0 => ?_; simp only [zO, zT, acs, reduceCtorEq, J, D, M, U, O, S]; (repeat refine an ?_); (try refine .inl ?_); apply k0; clear k0; simp only [zP, D])
 refine aa ?_
 apply k5; clear k5; refine kp [0, 1, 4, 9, 10, 11, 12] ?_
 refine Z fun _ k6 => ?_
 refine cd (fun hc7 => ?_) (fun hc7 => ?_)
 ·(try simp only [zB, reduceCtorEq] at hc7)
  refine am ?_
  apply k6; clear k6; refine kp [0, 1, 4, 9, 10, 11, 12] ?_
  refine Z fun _ k8 => ?_
  refine az ?_
  refine Z fun _ k9 => ?_
  refine a9 hP hN rfl ?_
  iterate 5 (refine V rfl fun _ k0 => ?_; simp only [zO, zT, acs, reduceCtorEq, J, D, M, U, O, S]; (repeat refine an ?_); (try refine .inl ?_); apply k0; clear k0; simp only [zP, D])
  refine aa ?_
  apply k9; clear k9; refine kp [0, 1, 4, 5, 6, 9, 10, 11, 12] ?_
  refine Z fun _ k10 => ?_
  refine Z fun _ k11 => ?_
  refine a9 hP hN rfl ?_
  iterate 4 (refine V rfl fun _ k0 => ?_; simp only [zO, zT, acs, reduceCtorEq, J, D, M, U, O, S]; (repeat refine an ?_); (try refine .inl ?_); apply k0; clear k0; simp only [zP, D])
  refine aa ?_
  apply k11; clear k11; refine kp [0, 1, 4, 5, 6, 9, 10, 11, 12, 19] ?_
  refine cd (fun hc12 => ?_) (fun hc12 => ?_)
  ·(try simp only [zB, reduceCtorEq] at hc12)
   have h1 := hc12
   refine Z fun _ k13 => ?_
   refine a9 hP hN rfl ?_
   (refine V rfl fun _ k0 => ?_; simp only [zO, zT, acs, reduceCtorEq, J, D, M, U, O, S]; (repeat refine an ?_); (try refine .inl ?_); apply k0; clear k0; simp only [zP, D])
   refine aa ?_
   apply k13; clear k13; refine kp [0, 1, 4, 5, 6, 9, 10, 11, 12, 19] ?_
   refine ak ?_
   refine ⟨nr, _, rfl, ?_⟩; simp only [zF, zP, J, D]
   refine VLE.of_eq ?_
   refine congrArg (fun n => AV.one (AC.int IntKind.i64 n)) ?_
   symm
   first
   | exact iE hq (by omega) (by omega) (by omega)
   | exact f9 (fun q hq2 => hq q (by omega)) (by omega)
   | (rw [dd (fun q hq2 => hq q (by omega)) (by omega), if_pos (by omega)]; done)
   | (rw [dd (fun q hq2 => hq q (by omega)) (by omega), if_neg (by omega)]; done)
  (try simp only [zB, reduceCtorEq] at hc12)
  have h1 := hc12
  refine am ?_
  apply k10; clear k10; refine kp [0, 1, 4, 5, 6, 9, 10, 11, 12, 19] ?_
  refine Z fun _ k14 => ?_
  refine a9 hP hN rfl ?_
  iterate 5 (refine V rfl fun _ k0 => ?_; simp only [zO, zT, acs, reduceCtorEq, J, D, M, U, O, S]; (repeat refine an ?_); (try refine .inl ?_); apply k0; clear k0; simp only [zP, D])
  refine aa ?_
  apply k14; clear k14; refine kp [0, 1, 4, 5, 6, 7, 9, 10, 11, 12, 19] ?_
  refine Z fun _ k15 => ?_
  refine a9 hP hN rfl ?_
  iterate 2 (refine V rfl fun _ k0 => ?_; simp only [zO, zT, acs, reduceCtorEq, J, D, M, U, O, S]; (repeat refine an ?_); (try refine .inl ?_); apply k0; clear k0; simp only [zP, D])
  refine V rfl fun _ k0 => ?_
  refine ar (h := ah (pK (v.getD k 0) (w.getD k 0))) rfl rfl (by first | exact rfl | (simp only [ev, zP, J, D]; exact rfl)) (by simp only [zV, acs, reduceCtorEq, J, D, M, U, O, S]) ?_
  apply k0; clear k0; simp only [zP, D]
  (refine V rfl fun _ k0 => ?_; simp only [zO, zT, acs, reduceCtorEq, J, D, M, U, O, S]; (repeat refine an ?_); (try refine .inl ?_); apply k0; clear k0; simp only [zP, D])
  refine aa ?_
  apply k15; clear k15; refine kp [0, 1, 4, 5, 6, 7, 8, 9, 10, 11, 12, 19] ?_
  refine Z fun _ k16 => ?_
  refine a9 hP hN rfl ?_
  iterate 2 (refine V rfl fun _ k0 => ?_; simp only [zO, zT, acs, reduceCtorEq, J, D, M, U, O, S]; (repeat refine an ?_); (try refine .inl ?_); apply k0; clear k0; simp only [zP, D])
  refine aa ?_
  apply k16; clear k16; refine kp [0, 1, 4, 5, 6, 7, 8, 9, 10, 11, 12, 19, 28] ?_
  refine cd (fun hc17 => ?_) (fun hc17 => ?_)
  ·(try simp only [zB, reduceCtorEq] at hc17)
   have h2 := hc17
   refine Z fun _ k18 => ?_
   refine a9 hP hN rfl ?_
   iterate 2 (refine V rfl fun _ k0 => ?_; simp only [zO, zT, acs, reduceCtorEq, J, D, M, U, O, S]; (repeat refine an ?_); (try refine .inl ?_); apply k0; clear k0; simp only [zP, D])
   refine aa ?_
   apply k18; clear k18; refine kp [0, 1, 4, 5, 6, 7, 8, 9, 10, 11, 12, 19, 28] ?_
   refine ak ?_
   refine ⟨nr, _, rfl, ?_⟩; simp only [zF, zP, J, D]
   refine VLE.of_eq ?_
   refine congrArg (fun n => AV.one (AC.int IntKind.i64 n)) ?_
   symm
   first
   | exact iE hq (by omega) (by omega) (by omega)
   | exact f9 (fun q hq2 => hq q (by omega)) (by omega)
   | (rw [dd (fun q hq2 => hq q (by omega)) (by omega), if_pos (by omega)]; done)
   | (rw [dd (fun q hq2 => hq q (by omega)) (by omega), if_neg (by omega)]; done)
  (try simp only [zB, reduceCtorEq] at hc17)
  have h2 := hc17
  have heq := sO (x := v.getD k 0) (y := w.getD k 0) (by omega)
  refine am ?_
  apply k8; clear k8; refine kp [0, 1, 4, 5, 6, 7, 8, 9, 10, 11, 12, 19, 28] ?_
  refine a9 hP hN rfl ?_
  iterate 2 (refine V rfl fun _ k0 => ?_; simp only [zO, zT, acs, reduceCtorEq, J, D, M, U, O, S]; (repeat refine an ?_); (try refine .inl ?_); apply k0; clear k0; simp only [zP, D])
  refine aa ?_
  refine ⟨_, _, ?_, aw [0, 1, 4, 9, 10, 11], k + 1, by omega, by omega, fun q hq2 => ?_, rfl, rfl⟩
  · omega
  · by_cases e : q = k
    · rw [e]; exact heq
    · exact hq q (by omega)
 (try simp only [zB, reduceCtorEq] at hc7)
 refine aV ?_
 apply k2; clear k2; refine kp [0, 1, 4, 9, 10, 11, 12] ?_
 refine Z fun _ k19 => ?_
 refine Z fun _ k20 => ?_
 refine a9 hP hN rfl ?_
 iterate 5 (refine V rfl fun _ k0 => ?_; simp only [zO, zT, acs, reduceCtorEq, J, D, M, U, O, S]; (repeat refine an ?_); (try refine .inl ?_); apply k0; clear k0; simp only [zP, D])
 refine aa ?_
 apply k20; clear k20; refine kp [0, 1, 4, 9, 10, 11, 12, 35] ?_
 refine cd (fun hc21 => ?_) (fun hc21 => ?_)
 ·(try simp only [zB, reduceCtorEq] at hc21)
  have h3 := hc21
  refine Z fun _ k22 => ?_
  refine a9 hP hN rfl ?_
  (refine V rfl fun _ k0 => ?_; simp only [zO, zT, acs, reduceCtorEq, J, D, M, U, O, S]; (repeat refine an ?_); (try refine .inl ?_); apply k0; clear k0; simp only [zP, D])
  refine aa ?_
  apply k22; clear k22; refine kp [0, 1, 4, 9, 10, 11, 12, 35] ?_
  refine ak ?_
  refine ⟨nr, _, rfl, ?_⟩; simp only [zF, zP, J, D]
  refine VLE.of_eq ?_
  refine congrArg (fun n => AV.one (AC.int IntKind.i64 n)) ?_
  symm
  first
  | exact iE hq (by omega) (by omega) (by omega)
  | exact f9 (fun q hq2 => hq q (by omega)) (by omega)
  | (rw [dd (fun q hq2 => hq q (by omega)) (by omega), if_pos (by omega)]; done)
  | (rw [dd (fun q hq2 => hq q (by omega)) (by omega), if_neg (by omega)]; done)
 (try simp only [zB, reduceCtorEq] at hc21)
 have h3 := hc21
 refine am ?_
 apply k19; clear k19; refine kp [0, 1, 4, 9, 10, 11, 12, 35] ?_
 refine Z fun _ k23 => ?_
 refine a9 hP hN rfl ?_
 (refine V rfl fun _ k0 => ?_; simp only [zO, zT, acs, reduceCtorEq, J, D, M, U, O, S]; (repeat refine an ?_); (try refine .inl ?_); apply k0; clear k0; simp only [zP, D])
 refine aa ?_
 apply k23; clear k23; refine kp [0, 1, 4, 9, 10, 11, 12, 35] ?_
 refine ak ?_
 refine ⟨nr, _, rfl, ?_⟩; simp only [zF, zP, J, D]
 refine VLE.of_eq ?_
 refine congrArg (fun n => AV.one (AC.int IntKind.i64 n)) ?_
 symm
 first
 | exact iE hq (by omega) (by omega) (by omega)
 | exact f9 (fun q hq2 => hq q (by omega)) (by omega)
 | (rw [dd (fun q hq2 => hq q (by omega)) (by omega), if_pos (by omega)]; done)
 | (rw [dd (fun q hq2 => hq q (by omega)) (by omega), if_neg (by omega)]; done)
theorem qz (v w : List Int) : aW Tryd.prog 104 [.one (.list (.int .i64) v), .one (.list (.int .i64) w)] (.one (.int .i64 (bM v w))) := by
 refine aA Tryd.func104 rfl (by kernel_rfl) (Nat.le_of_ble_eq_true rfl) rfl fun C hP hN hB => ?_
 replace hN : C.N = 15 := hN
 simp only [aL, D]
 refine Z fun _ k1 => ?_
 refine a9 hP hN rfl ?_
 (refine V rfl fun _ k0 => ?_; simp only [zO, zT, acs, reduceCtorEq, J, D, M, U, O, S]; (repeat refine an ?_); (try refine .inl ?_); apply k0; clear k0; simp only [zP, D])
 refine aa ?_
 apply k1; clear k1; refine kp [0, 1, 4] ?_
 refine Z fun _ k2 => ?_
 refine a9 hP hN rfl ?_
 iterate 4 (refine V rfl fun _ k0 => ?_; simp only [zO, zT, acs, reduceCtorEq, J, D, M, U, O, S]; (repeat refine an ?_); (try refine .inl ?_); apply k0; clear k0; simp only [zP, D])
 refine V rfl fun _ k0 => ?_
 refine ar (h := ah (pK v.length w.length)) rfl rfl (by first | exact rfl | (simp only [ev, zP, J, D]; exact rfl)) (by simp only [zV, acs, reduceCtorEq, J, D, M, U, O, S]) ?_
 apply k0; clear k0; simp only [zP, D]
 iterate 2 (refine V rfl fun _ k0 => ?_; simp only [zO, zT, acs, reduceCtorEq, J, D, M, U, O, S]; (repeat refine an ?_); (try refine .inl ?_); apply k0; clear k0; simp only [zP, D])
 refine V rfl fun _ k0 => ?_
 refine ar (h := ah (nQ v w)) rfl rfl (by first | exact rfl | (simp only [ev, zP, J, D]; exact rfl)) (by simp only [zV, acs, reduceCtorEq, J, D, M, U, O, S]) ?_
 apply k0; clear k0; simp only [zP, D]
 (refine V rfl fun _ k0 => ?_; simp only [zO, zT, acs, reduceCtorEq, J, D, M, U, O, S]; (repeat refine an ?_); (try refine .inl ?_); apply k0; clear k0; simp only [zP, D])
 refine V rfl fun _ k0 => ?_
 refine ar (h := ah (ri (dG v.length w.length) (dv v w))) rfl rfl (by first | exact rfl | (simp only [ev, zP, J, D]; exact rfl)) (by simp only [zV, acs, reduceCtorEq, J, D, M, U, O, S]) ?_
 apply k0; clear k0; simp only [zP, D]
 (refine V rfl fun _ k0 => ?_; simp only [zO, zT, acs, reduceCtorEq, J, D, M, U, O, S]; (repeat refine an ?_); (try refine .inl ?_); apply k0; clear k0; simp only [zP, D])
 refine aa ?_
 apply k2; clear k2; refine kp [0, 1, 4] ?_
 refine ak ?_
 refine ⟨nr, _, rfl, ?_⟩; simp only [zF, zP, J, D]
 refine VLE.of_eq ?_
 rw [tA]
theorem lT (a b : TRC) : aW Tryd.prog 95 [.agg [.list (.int .i64) a.1, .list (.int .i64) a.2.1], .agg [.list (.int .i64) b.1, .list (.int .i64) b.2.1]] (.one (.int .i64 (bM a.1 b.1))) := by
 refine aA Tryd.func95 rfl (by kernel_rfl) (Nat.le_of_ble_eq_true rfl) rfl fun C hP hN hB => ?_
 replace hN : C.N = 10 := hN
 simp only [aL, D]
 refine Z fun _ k1 => ?_
 refine a9 hP hN rfl ?_
 iterate 3 (refine V rfl fun _ k0 => ?_; simp only [zO, zT, acs, reduceCtorEq, J, D, M, U, O, S]; (repeat refine an ?_); (try refine .inl ?_); apply k0; clear k0; simp only [zP, D])
 refine aa ?_
 apply k1; clear k1; refine kp [0, 1, 2, 3, 4] ?_
 refine Z fun _ k2 => ?_
 refine a9 hP hN rfl ?_
 iterate 4 (refine V rfl fun _ k0 => ?_; simp only [zO, zT, acs, reduceCtorEq, J, D, M, U, O, S]; (repeat refine an ?_); (try refine .inl ?_); apply k0; clear k0; simp only [zP, D])
 refine V rfl fun _ k0 => ?_
 refine ar (h := ah (qz a.1 b.1)) rfl rfl (by first | exact rfl | (simp only [ev, zP, J, D]; exact rfl)) (by simp only [zV, acs, reduceCtorEq, J, D, M, U, O, S]) ?_
 apply k0; clear k0; simp only [zP, D]
 (refine V rfl fun _ k0 => ?_; simp only [zO, zT, acs, reduceCtorEq, J, D, M, U, O, S]; (repeat refine an ?_); (try refine .inl ?_); apply k0; clear k0; simp only [zP, D])
 refine aa ?_
 apply k2; clear k2; refine kp [0, 1, 2, 3, 4] ?_
 refine ak ?_
 refine ⟨nr, _, rfl, ?_⟩; simp only [zF, zP, J, D]
 refine VLE.of_eq ?_
 rfl
theorem u9 (xs : List TRC) (t : TRC) (hs : SRT xs) (hl : xs.length ≤ 1000000) : aW Tryd.prog 94 [.one (.list (.pair (.list (.int .i64)) (.pair (.list (.int .i64)) .unit)) xs), .agg [.list (.int .i64) t.1, .list (.int .i64) t.2.1], .one (.fn 95 [])] (.tup [.one (.int .i64 (plc xs t : Int)), .one (.bool (decide ((plc xs t : Int) < xs.length) && decide (bM (xs.getD (plc xs t) aP).1 t.1 = 0)))]) := by
 refine aA Tryd.func94 rfl (by kernel_rfl) (Nat.le_of_ble_eq_true rfl) rfl fun C hP hN hB => ?_
 replace hN : C.N = 49 := hN
 simp only [aL, D]
 refine cO 0 rfl fun hf0 => ?_; simp only [lkp, if_true, if_false, reduceCtorEq, J, eq_self, Nat.one_ne_zero, Nat.zero_ne_one, eT, eu, eD, Fit, and_true, implies_true, true_and] at hf0
 refine Z fun _ k1 => ?_
 refine a9 hP hN rfl ?_
 iterate 3 (refine V rfl fun _ k0 => ?_; simp only [zO, zT, acs, reduceCtorEq, J, D, M, U, O, S, bq, Int.toNat_one, Int.reducePow, Int.reduceToNat]; (repeat refine an ?_); (try refine .inl ?_); apply k0; clear k0; simp only [zP, D])
 refine aa ?_
 apply k1; clear k1; refine kp [0, 1, 2, 4, 6, 7] ?_
 refine Z fun _ k2 => ?_
 refine a9 hP hN rfl ?_
 iterate 3 (refine V rfl fun _ k0 => ?_; simp only [zO, zT, acs, reduceCtorEq, J, D, M, U, O, S, bq, Int.toNat_one, Int.reducePow, Int.reduceToNat]; (repeat refine an ?_); (try refine .inl ?_); apply k0; clear k0; simp only [zP, D])
 refine aa ?_
 apply k2; clear k2; refine kp [0, 1, 2, 4, 6, 7, 8] ?_
 refine Z fun _ k3 => ?_
 refine a9 hP hN rfl ?_
 iterate 3 (refine V rfl fun _ k0 => ?_; simp only [zO, zT, acs, reduceCtorEq, J, D, M, U, O, S, bq, Int.toNat_one, Int.reducePow, Int.reduceToNat]; (repeat refine an ?_); (try refine .inl ?_); apply k0; clear k0; simp only [zP, D])
 refine aa ?_
 apply k3; clear k3; refine kp [0, 1, 2, 4, 6, 7, 8, 9, 10] ?_
 refine Z fun _ k4 => ?_
 refine az ?_
 refine aX (fun n5 s5 => ∃ (lo hi : Nat), (lo ≤ hi ∧ hi ≤ xs.length) ∧ (∀ q : Nat, q < lo → bM (xs.getD q aP).1 t.1 < 0) ∧ (∀ q : Nat, hi ≤ q → q < xs.length → ¬ bM (xs.getD q aP).1 t.1 < 0) ∧ n5 = hi - lo ∧ s5 = { env := [(0, .one (.list (.pair (.list (.int .i64)) (.pair (.list (.int .i64)) .unit)) xs)), (2, .one (.fn 95 [])), (4, .one (.ptr 0 0 0 0)), (6, .one (.int .i64 0)), (7, .one (.bool false)), (8, .one (.int .i64 (xs.length : Int))), (9, .one (.int .i64 (lo : Int))), (10, .one (.int .i64 (hi : Int)))], L := [.vars 60 [.list (.int .i64) t.1, .list (.int .i64) t.2.1]] }) ?_ ?_
 ·exact ⟨_, _, aw [0, 2, 4, 6, 7, 8, 9, 10], 0, xs.length, ⟨Nat.zero_le _, Nat.le_refl _⟩, fun q h => by omega, fun q h h2 => by omega, rfl, rfl⟩
 rintro n5 s5 ⟨lo, hi, hlo, h1, h2, rfl, rfl⟩
 refine Z fun _ k6 => ?_
 refine Z fun _ k7 => ?_
 refine a9 hP hN rfl ?_
 iterate 3 (refine V rfl fun _ k0 => ?_; simp only [zO, zT, acs, reduceCtorEq, J, D, M, U, O, S, bq, Int.toNat_one, Int.reducePow, Int.reduceToNat]; (repeat refine an ?_); (try refine .inl ?_); apply k0; clear k0; simp only [zP, D])
 refine aa ?_
 apply k7; clear k7; refine kp [0, 2, 4, 6, 7, 8, 9, 10, 17] ?_
 refine cd (fun hc8 => ?_) (fun hc8 => ?_)
 ·(try simp only [zB, reduceCtorEq] at hc8)
  refine am ?_
  apply k6; clear k6; refine kp [0, 2, 4, 6, 7, 8, 9, 10, 17] ?_
  refine az ?_
  refine Z fun _ k9 => ?_
  refine a9 hP hN rfl ?_
  iterate 3 (refine V rfl fun _ k0 => ?_; simp only [zO, zT, acs, reduceCtorEq, J, D, M, U, O, S, bq, Int.toNat_one, Int.reducePow, Int.reduceToNat]; (repeat refine an ?_); (try refine .inl ?_); apply k0; clear k0; simp only [zP, D])
  (refine V rfl fun _ k0 => ?_; simp only [zE, op1, ev, lkp, c9, be, dA, bj, cB, cS, cp, d6, fu, reduceCtorEq, J, D, M, U, O, S, Tryd.td122, Tryd.td3, bq, Int.toNat_one, Int.reducePow, Int.reduceToNat]; (repeat refine an ?_); (try refine .inl ?_); apply k0; clear k0; simp only [zP, D])
  (refine V rfl fun _ k0 => ?_; simp only [zO, zT, acs, reduceCtorEq, J, D, M, U, O, S, bq, Int.toNat_one, Int.reducePow, Int.reduceToNat]; (repeat refine an ?_); (try refine .inl ?_); apply k0; clear k0; simp only [zP, D])
  (refine V rfl fun _ k0 => ?_; simp only [zE, op1, ev, lkp, c9, be, dA, bj, cB, cS, cp, d6, fu, reduceCtorEq, J, D, M, U, O, S, Tryd.td122, Tryd.td3, bq, Int.toNat_one, Int.reducePow, Int.reduceToNat]; (repeat refine an ?_); (try refine .inl ?_); apply k0; clear k0; simp only [zP, D])
  (refine V rfl fun _ k0 => ?_; simp only [zO, zT, acs, reduceCtorEq, J, D, M, U, O, S, bq, Int.toNat_one, Int.reducePow, Int.reduceToNat]; (repeat refine an ?_); (try refine .inl ?_); apply k0; clear k0; simp only [zP, D])
  refine aa ?_
  apply k9; clear k9; refine kp [0, 2, 4, 6, 7, 8, 9, 10, 11, 17] ?_
  refine Z fun _ k10 => ?_
  have hmid : ((lo : Int) + (hi : Int)) / 2 = (((lo + hi) / 2) : Nat) := by omega
  rw [hmid]
  have hml : ((lo + hi) / 2) < xs.length := by omega
  obtain ⟨x1, x2, hgx⟩ : ∃ x1 x2, ∀ d, xs.getD ((lo + hi) / 2) d = (x1, (x2, ())) := ⟨_, _, cq (by omega)⟩
  refine bV hP hN Tryd.mixed rfl ?_
  iterate 6 (refine V rfl fun _ k0 => ?_; simp only [zO, zT, acs, reduceCtorEq, J, D, M, U, O, S, bq, Int.toNat_one, Int.reducePow, Int.reduceToNat, gt, ae, hgx]; (repeat refine an ?_); (try refine .inl ?_); apply k0; clear k0; simp only [zP, D])
  refine V rfl fun _ k0 => ?_
  refine ar (h := ah (lT (x1, (x2, ())) t)) rfl rfl (by first | exact rfl | (simp only [ev, zP, J, D]; exact rfl)) (by simp only [zV, acs, reduceCtorEq, J, D, M, U, O, S, bq, Int.toNat_one, Int.reducePow, Int.reduceToNat, gt, ae, hgx]) ?_
  apply k0; clear k0; simp only [zP, D]
  (refine V rfl fun _ k0 => ?_; simp only [zO, zT, acs, reduceCtorEq, J, D, M, U, O, S, bq, Int.toNat_one, Int.reducePow, Int.reduceToNat, gt, ae, hgx]; (repeat refine an ?_); (try refine .inl ?_); apply k0; clear k0; simp only [zP, D])
  refine aa ?_
  refine ⟨by kernel_rfl, ?_⟩
  apply k10; clear k10; refine kp [0, 2, 4, 6, 7, 8, 9, 10, 11, 17, 31] ?_
  refine cd (fun hc11 => ?_) (fun hc11 => ?_)
  ·(try simp only [zB, reduceCtorEq] at hc11)
   have hv : bM (xs.getD ((lo + hi) / 2) aP).1 t.1 < 0 := by rw [hgx]; simpa using hc11
   refine a9 hP hN rfl ?_
   iterate 3 (refine V rfl fun _ k0 => ?_; simp only [zO, zT, acs, reduceCtorEq, J, D, M, U, O, S, bq, Int.toNat_one, Int.reducePow, Int.reduceToNat]; (repeat refine an ?_); (try refine .inl ?_); apply k0; clear k0; simp only [zP, D])
   refine aa ?_
   first
   | (refine ⟨_, _, ?_, aw [0, 2, 4, 6, 7, 8, 9, 10], ((lo + hi) / 2) + 1, hi, ⟨by omega, hlo.2⟩, fun q hq => ?_, h2, rfl, rfl⟩
      · omega
      · by_cases e : q = ((lo + hi) / 2)
        · rw [e]; exact hv
        · exact dH (ig hs (show q < ((lo + hi) / 2) by omega) hml) hv)
   | (refine ⟨_, _, ?_, aw [0, 2, 4, 6, 7, 8, 9, 10], lo, ((lo + hi) / 2), ⟨by omega, by omega⟩, h1, fun q hq hq2 hv2 => ?_, rfl, rfl⟩
      · omega
      · by_cases e : q = ((lo + hi) / 2)
        · rw [e] at hv2; exact hv hv2
        · exact hv (dH (ig hs (show ((lo + hi) / 2) < q by omega) hq2) hv2))
  (try simp only [zB, reduceCtorEq] at hc11)
  have hv : ¬ bM (xs.getD ((lo + hi) / 2) aP).1 t.1 < 0 := by rw [hgx]; simpa using hc11
  refine a9 hP hN rfl ?_
  iterate 2 (refine V rfl fun _ k0 => ?_; simp only [zO, zT, acs, reduceCtorEq, J, D, M, U, O, S, bq, Int.toNat_one, Int.reducePow, Int.reduceToNat]; (repeat refine an ?_); (try refine .inl ?_); apply k0; clear k0; simp only [zP, D])
  refine aa ?_
  first
  | (refine ⟨_, _, ?_, aw [0, 2, 4, 6, 7, 8, 9, 10], ((lo + hi) / 2) + 1, hi, ⟨by omega, hlo.2⟩, fun q hq => ?_, h2, rfl, rfl⟩
     · omega
     · by_cases e : q = ((lo + hi) / 2)
       · rw [e]; exact hv
       · exact dH (ig hs (show q < ((lo + hi) / 2) by omega) hml) hv)
  | (refine ⟨_, _, ?_, aw [0, 2, 4, 6, 7, 8, 9, 10], lo, ((lo + hi) / 2), ⟨by omega, by omega⟩, h1, fun q hq hq2 hv2 => ?_, rfl, rfl⟩
     · omega
     · by_cases e : q = ((lo + hi) / 2)
       · rw [e] at hv2; exact hv hv2
       · exact hv (dH (ig hs (show ((lo + hi) / 2) < q by omega) hq2) hv2))
 (try simp only [zB, reduceCtorEq] at hc8)
 refine aV ?_
 apply k4; clear k4; refine kp [0, 2, 4, 6, 7, 8, 9, 10, 17] ?_
 refine Z fun _ k12 => ?_
 have hlh : lo = hi := by omega
 have hpl : plc xs t = lo := tI hs h1 (by omega) (fun q hq hq2 => h2 q (by omega) hq2)
 obtain ⟨x1, x2, hgx0⟩ : ∃ x1 x2, xs.getD lo aP = (x1, (x2, ())) := ⟨_, _, rfl⟩
 have hgx : xs.getD lo ([], ([], ())) = (x1, (x2, ())) := hgx0
 refine bV hP hN Tryd.mixed rfl ?_
 iterate 5 (refine V rfl fun _ k0 => ?_; simp only [zO, zT, acs, reduceCtorEq, J, D, M, U, O, S, bq, Int.toNat_one, Int.reducePow, Int.reduceToNat, gt, ae, hgx]; (repeat refine an ?_); (try refine .inl ?_); apply k0; clear k0; simp only [zP, D])
 refine' aC (want := true) 8 rfl (m := 39) (by simp only [zP, J, D]; exact rfl) (by kernel_rfl) rfl rfl rfl rfl rfl (fun hg13 => ?a13) ?b13 ?c13
 case a13 =>
  have hq13 := hg13; (try simp only [zB, reduceCtorEq] at hg13); simp only [zE]
  iterate 6 (refine aO rfl fun _ k0 => ?_; simp only [zO, zT, acs, reduceCtorEq, J, D, M, U, O, S, bq, Int.toNat_one, Int.reducePow, Int.reduceToNat, gt, ae, hgx]; (repeat refine an ?_); (try refine .inl ?_); apply k0; clear k0; simp only [zP, D])
  refine aO rfl fun _ k0 => ?_
  refine ar (h := ah (lT (x1, (x2, ())) t)) rfl rfl (by first | exact rfl | (simp only [ev, zP, J, D]; exact rfl)) (by simp only [zV, acs, reduceCtorEq, J, D, M, U, O, S, bq, Int.toNat_one, Int.reducePow, Int.reduceToNat, gt, ae, hgx]) ?_
  apply k0; clear k0; simp only [zP, D]
  (refine aO rfl fun _ k0 => ?_; simp only [zO, zT, acs, reduceCtorEq, J, D, M, U, O, S, bq, Int.toNat_one, Int.reducePow, Int.reduceToNat, gt, ae, hgx]; (repeat refine an ?_); (try refine .inl ?_); apply k0; clear k0; simp only [zP, D])
  (refine V rfl fun _ k0 => ?_; simp only [zO, zT, acs, reduceCtorEq, J, D, M, U, O, S, bq, Int.toNat_one, Int.reducePow, Int.reduceToNat, gt, ae, hgx]; (repeat refine an ?_); (try refine .inl ?_); apply k0; clear k0; simp only [zP, D])
  refine aa ?_
  refine ⟨by simp only [zP, J, D]; exact rfl, rfl, ?_, rfl⟩; (repeat refine aB rfl ?_); exact aQ (by exact rfl) hq13
 case b13 => exact bg
 simp only [aN, aG]
 iterate 2 (refine V rfl fun _ k0 => ?_; simp only [zO, zT, acs, reduceCtorEq, J, D, M, U, O, S, bq, Int.toNat_one, Int.reducePow, Int.reduceToNat, gt, ae, hgx]; (repeat refine an ?_); (try refine .inl ?_); apply k0; clear k0; simp only [zP, D])
 refine aa ?_
 refine ⟨by kernel_rfl, ?_⟩
 apply k12; clear k12; refine kp [0, 2, 4, 6, 7, 8, 9, 10, 17] ?_
 refine ak ?_
 refine ⟨nr, _, rfl, ?_⟩; simp only [zF, zP, J, D, bq, Int.toNat_one, Int.reducePow, Int.reduceToNat]
 refine VLE.of_eq ?_
 simp only [hpl, hgx0]
theorem pM  : aW Tryd.prog 101 [.one .nils] (.one .nils) := by
 refine aA Tryd.func101 rfl (by kernel_rfl) (Nat.le_of_ble_eq_true rfl) rfl fun C hP hN hB => ?_
 replace hN : C.N = 8 := hN
 simp only [aL, D]
 refine Z fun _ k1 => ?_
 refine a9 hP hN rfl ?_
 (refine V rfl fun _ k0 => ?_; simp only [zO, zT, acs, reduceCtorEq, J, D, M, U, O, S]; (repeat refine an ?_); (try refine .inl ?_); apply k0; clear k0; simp only [zP, D])
 refine aa ?_
 apply k1; clear k1; refine kp [0, 2] ?_
 refine Z fun _ k2 => ?_
 refine Z fun _ k3 => ?_
 refine a9 hP hN rfl ?_
 iterate 2 (refine V rfl fun _ k0 => ?_; simp only [zO, zT, acs, reduceCtorEq, J, D, M, U, O, S]; (repeat refine an ?_); (try refine .inl ?_); apply k0; clear k0; simp only [zP, D])
 refine aa ?_
 apply k3; clear k3; refine kp [0, 2, 4] ?_
 refine cd (fun hc4 => ?_) (fun hc4 => ?_)
 ·(try simp only [zB, reduceCtorEq] at hc4)
  refine Z fun _ k5 => ?_
  refine a9 hP hN rfl ?_
  (refine V rfl fun _ k0 => ?_; simp only [zO, zT, acs, reduceCtorEq, J, D, M, U, O, S]; (repeat refine an ?_); (try refine .inl ?_); apply k0; clear k0; simp only [zP, D])
  refine aa ?_
  apply k5; clear k5; refine kp [0, 2, 4] ?_
  refine ak ?_
  refine ⟨nr, _, rfl, ?_⟩; simp only [zF, zP, J, D]
  refine VLE.of_eq ?_
  rfl
 · exfalso; (try simp only [zB, reduceCtorEq] at hc4); all_goals (first | (cases hc4; done) | omega | (simp at hc4; done) | (simp_all; done))
theorem tp  : aW Tryd.prog 101 [.one .emp] (.one (.list (.int .i64) [])) := by
 refine aA Tryd.func101 rfl (by kernel_rfl) (Nat.le_of_ble_eq_true rfl) rfl fun C hP hN hB => ?_
 replace hN : C.N = 8 := hN
 simp only [aL, D]
 refine Z fun _ k1 => ?_
 refine a9 hP hN rfl ?_
 (refine V rfl fun _ k0 => ?_; simp only [zO, zT, acs, reduceCtorEq, J, D, M, U, O, S]; (repeat refine an ?_); (try refine .inl ?_); apply k0; clear k0; simp only [zP, D])
 refine aa ?_
 apply k1; clear k1; refine kp [0, 2] ?_
 refine Z fun _ k2 => ?_
 refine Z fun _ k3 => ?_
 refine a9 hP hN rfl ?_
 iterate 2 (refine V rfl fun _ k0 => ?_; simp only [zO, zT, acs, reduceCtorEq, J, D, M, U, O, S]; (repeat refine an ?_); (try refine .inl ?_); apply k0; clear k0; simp only [zP, D])
 refine aa ?_
 apply k3; clear k3; refine kp [0, 2, 4] ?_
 refine cd (fun hc4 => ?_) (fun hc4 => ?_)
 · exfalso; (try simp only [zB, reduceCtorEq] at hc4); all_goals (first | (cases hc4; done) | omega | (simp at hc4; done) | (simp_all; done))
 (try simp only [zB, reduceCtorEq] at hc4)
 refine am ?_
 apply k2; clear k2; refine kp [0, 2, 4] ?_
 refine Z fun _ k5 => ?_
 refine a9 hP hN rfl ?_
 (refine V rfl fun _ k0 => ?_; simp only [zO, zT, acs, reduceCtorEq, J, D, M, U, O, S]; (repeat refine an ?_); refine Or.inr (Or.inl (k0 _ ?_)); clear k0; simp only [zP, D])
 iterate 3 (refine V rfl fun _ k0 => ?_; simp only [zO, zT, acs, reduceCtorEq, J, D, M, U, O, S]; (repeat refine an ?_); (try refine .inl ?_); apply k0; clear k0; simp only [zP, D])
 refine aa ?_
 apply k5; clear k5; refine kp [0, 2, 4] ?_
 refine ak ?_
 refine ⟨nr, _, rfl, ?_⟩; simp only [zF, zP, J, D]
 refine VLE.of_eq ?_
 rfl
theorem tH (xs : List Int) (h0 : 0 < xs.length) (h1 : xs.length ≤ 10000000000000) : aW Tryd.prog 101 [.one (.list (.int .i64) xs)] (.one (.list (.int .i64) xs)) := by
 refine aA Tryd.func101 rfl (by kernel_rfl) (Nat.le_of_ble_eq_true rfl) rfl fun C hP hN hB => ?_
 replace hN : C.N = 8 := hN
 simp only [aL, D]
 refine Z fun _ k1 => ?_
 refine a9 hP hN rfl ?_
 (refine V rfl fun _ k0 => ?_; simp only [zO, zT, acs, reduceCtorEq, J, D, M, U, O, S]; (repeat refine an ?_); (try refine .inl ?_); apply k0; clear k0; simp only [zP, D])
 refine aa ?_
 apply k1; clear k1; refine kp [0, 2] ?_
 refine Z fun _ k2 => ?_
 refine Z fun _ k3 => ?_
 refine a9 hP hN rfl ?_
 iterate 2 (refine V rfl fun _ k0 => ?_; simp only [zO, zT, acs, reduceCtorEq, J, D, M, U, O, S]; (repeat refine an ?_); (try refine .inl ?_); apply k0; clear k0; simp only [zP, D])
 refine aa ?_
 apply k3; clear k3; refine kp [0, 2, 4] ?_
 refine cd (fun hc4 => ?_) (fun hc4 => ?_)
 · exfalso; (try simp only [zB, reduceCtorEq] at hc4); all_goals (first | (cases hc4; done) | omega | (simp at hc4; done) | (simp_all; done))
 (try simp only [zB, reduceCtorEq] at hc4)
 refine am ?_
 apply k2; clear k2; refine kp [0, 2, 4] ?_
 refine Z fun _ k5 => ?_
 refine a9 hP hN rfl ?_
 (refine V rfl fun _ k0 => ?_; simp only [zO, zT, acs, reduceCtorEq, J, D, M, U, O, S]; (repeat refine an ?_); refine Or.inr (Or.inl (k0 _ ?_)); clear k0; simp only [zP, D])
 iterate 3 (refine V rfl fun _ k0 => ?_; simp only [zO, zT, acs, reduceCtorEq, J, D, M, U, O, S]; (repeat refine an ?_); (try refine .inl ?_); apply k0; clear k0; simp only [zP, D])
 refine aa ?_
 apply k5; clear k5; refine kp [0, 2, 4] ?_
 refine ak ?_
 refine ⟨nr, _, rfl, ?_⟩; simp only [zF, zP, J, D]
 refine VLE.of_eq ?_
 rfl
theorem nz (xs : List Int) (h : xs.length ≤ 10000000000000) : aW Tryd.prog 101 [.one (.list (.int .i64) xs)] (.one (.list (.int .i64) xs)) :=
  nO (t := .int .i64) (fun e => oH pM (ik (bp e))) (fun e => by subst e; exact tp) (fun h0 => tH xs h0 h) pM.1

theorem lI (t : TRC) (h1 : t.1.length ≤ 100000) (h2 : t.2.1.length ≤ 100000) : aW Tryd.prog 88 [.agg [.list (.int .i64) t.1, .list (.int .i64) t.2.1]] (.agg [.list (.int .i64) t.1, .list (.int .i64) t.2.1]) := by
 refine aA Tryd.func88 rfl (by kernel_rfl) (Nat.le_of_ble_eq_true rfl) rfl fun C hP hN hB => ?_
 replace hN : C.N = 10 := hN
 simp only [aL, D]
 refine Z fun _ k1 => ?_
 refine a9 hP hN rfl ?_
 iterate 2 (refine V rfl fun _ k0 => ?_; simp only [zO, zT, acs, reduceCtorEq, J, D, M, U, O, S]; (repeat refine an ?_); (try refine .inl ?_); apply k0; clear k0; simp only [zP, D])
 refine aa ?_
 apply k1; clear k1; refine kp [0, 1, 2] ?_
 refine Z fun _ k2 => ?_
 refine bV hP hN Tryd.mixed rfl ?_
 iterate 2 (refine V rfl fun _ k0 => ?_; simp only [zO, zT, acs, reduceCtorEq, J, D, M, U, O, S]; (repeat refine an ?_); (try refine .inl ?_); apply k0; clear k0; simp only [zP, D])
 refine V rfl fun _ k0 => ?_
 refine ar (h := ah (nz t.1 (by omega))) rfl rfl (by first | exact rfl | (simp only [ev, zP, J, D]; exact rfl)) (by simp only [zV, acs, reduceCtorEq, J, D, M, U, O, S]) ?_
 apply k0; clear k0; simp only [zP, D]
 iterate 2 (refine V rfl fun _ k0 => ?_; simp only [zO, zT, acs, reduceCtorEq, J, D, M, U, O, S]; (repeat refine an ?_); (try refine .inl ?_); apply k0; clear k0; simp only [zP, D])
 refine V rfl fun _ k0 => ?_
 refine ar (h := ah (nz t.2.1 (by omega))) rfl rfl (by first | exact rfl | (simp only [ev, zP, J, D]; exact rfl)) (by simp only [zV, acs, reduceCtorEq, J, D, M, U, O, S]) ?_
 apply k0; clear k0; simp only [zP, D]
 iterate 2 (refine V rfl fun _ k0 => ?_; simp only [zO, zT, acs, reduceCtorEq, J, D, M, U, O, S]; (repeat refine an ?_); (try refine .inl ?_); apply k0; clear k0; simp only [zP, D])
 refine aa ?_
 refine ⟨by kernel_rfl, ?_⟩
 apply k2; clear k2; refine kp [0, 1, 2] ?_
 refine ak ?_
 refine ⟨nr, _, rfl, ?_⟩; simp only [zF, zP, J, D]
 refine VLE.of_eq ?_
 rfl
/- packTy; lg8Th -/
section
open Go.RowKit Go.Shelf Go.Lib Go.Proofs
theorem fe {P : Program} (w : World) (dT sT ty elem : TypeId) (g o dLen dCap : Nat) (a : Addr) (pu sCap : Nat) (cur : Array Value) (t : TypeId) (cs : List Value) (k sz : Nat)
    (hu : P.underlying dT = some (.slice elem)) (hs : ∀ w, (sizeOf elem).run P w = .ok sz w)
    (hg : w.heap[g]? = some (.cells cur t (0, 0))) (hk : Nat.min pu dLen = k) (hn : cs.length = k * sz)
    (hsrc : ∀ j v, cs[j]? = some v → w.cell? (a.add j) = some v) (hfit : o + cs.length ≤ cur.size) (h1 : ∀ v ∈ cs, v.oneCell' = true) :
    (Builtin.copy_ #[dT, sT] ty #[.slice (some ⟨g, o, none⟩) dLen dCap, .slice (some a) pu sCap]).run P w =
      .ok (goInt k) (w.setRow g (splice cur.toList o cs).toArray) := by
  have hl := run_firstCells_some (P := P) w sz k a pu sCap cs hn hsrc
  have hst := run_storeCells_at P g o t cs 0 cur w hg (by simpa using hfit) h1
  simp only [Nat.add_zero] at hst
  subst hk
  simp [Builtin.copy_, run_underlying hu, Builtin.lenOf, hs, hl, hst, splice]
def INS (w : World) (v : Value) (n i : Nat) (flat vs : List Value) (v' : Value) (w' : World) : Prop :=
  w'.ownsRow 0 60 2 v' (n + 1) (flat.take (i * 2) ++ vs ++ flat.drop (i * 2)) ∧ w.grownBy w' v.ownBlock ∧ (v'.ownBlock = v.ownBlock ∨ v'.ownBlock = some w.heap.size)
set_option maxHeartbeats 4000000 in
theorem p5 (g n c i vb vc : Nat) (cur vcur : Array Value) (flat vs : List Value) (w : World) (hi : i < n) (hroom : n + 1 ≤ c) (hc : c ≤ maxLen) (hcs : cur.size = c * 2)
    (hg : w.heap[g]? = some (.cells cur 60 (0, 0))) (htk : cur.toList.take (n * 2) = flat) (hvb : w.heap[vb]? = some (.cells vcur 60 (0, 0))) (hvl : vs.length = 2) (hvk : vcur.toList.take 2 = vs) (hne : vb ≠ g)
    (h1 : ∀ v ∈ flat, v.oneCell' = true) (h2 : ∀ v ∈ vs, v.oneCell' = true) :
    Calls Tryd.prog 96 #[.slice (some ⟨g, 0, none⟩) n c, .int .i64 i, .slice (some ⟨vb, 0, none⟩) 1 vc] w fun e w' => ∃ v', e = .returned v' ∧ INS w (.slice (some ⟨g, 0, none⟩) n c) n i flat vs v' w' := by
  have hcm : c ≤ 9223372036854775807 := by simp only [maxLen] at hc; omega
  have hvs2 : 2 ≤ vcur.size := by rw [← hvk, List.length_take, Array.length_toList] at hvl; omega
  have hfl : flat.length = n * 2 := by rw [← htk, List.length_take, Array.length_toList]; omega
  have hov : ∀ lb cb off, (callFunc 105 #[.slice (some ⟨vb, 0, none⟩) 1 vc, .slice (some ⟨g, off, none⟩) lb cb]).run Tryd.prog w = .ok (.value (.bool false)) w := fun lb cb off => by
    rw [run_callFunc_extern Tryd.func105 (by kernel_rfl) (by kernel_rfl) (by kernel_rfl) (e := Extern.SlicesOverlaps.overlaps #[27, 27] #[4]) (by kernel_rfl),
      Lib.run_overlaps_apart w 27 4 60 Tryd.underlying27 2 Tryd.sizeOf60 ⟨vb, 0, none⟩ ⟨g, off, none⟩ 1 vc lb cb hne 60 60 vcur.size cur.size (by simp [World.shape?, hvb]) (by simp [World.shape?, hg]) (by omega) (by simp [World.frozen?, hvb]) (by simp [World.frozen?, hvb])]
    rfl
  have hz2 : ¬ ((i : Int) = (n : Int)) := by omega
  have hw1 : IntKind.i64.wrap ((i : Int) + 1) = (i : Int) + 1 := by rw [IntKind.wrap_i64]; omega
  have hb1 : (0 : Int) ≤ (i : Int) + 1 := by omega
  have hin : i ≤ n := by omega
  have htn : ((i : Int) + 1).toNat = i + 1 := by omega
  have hb2 : ¬ (c = i + 1) := by omega
  have hb3 : (i : Int) ≤ (n : Int) + 1 := by omega
  have hb4 : ¬ (c = i) := by omega
  have hdl : (flat.drop (i * 2)).length = (n - i) * 2 := by rw [List.length_drop]; omega
  have hcl : cur.toList.length = c * 2 := by rw [Array.length_toList]; exact hcs
  have hfc : ∀ j v, flat[j]? = some v → cur[j]? = some v := fun j v hj => by
    rw [← htk, List.getElem?_take] at hj
    split at hj
    · simpa using hj
    · cases hj
  obtain ⟨cur1, hcur1⟩ : ∃ cur1, cur1 = (splice cur.toList ((i + 1) * 2) (flat.drop (i * 2))).toArray := ⟨_, rfl⟩
  have hl1 : cur1.size = c * 2 := by rw [hcur1, List.size_toArray, length_splice _ _ _ (by rw [hdl]; omega), hcl]
  obtain ⟨cur2, hcur2⟩ : ∃ cur2, cur2 = (splice cur1.toList (i * 2) vs).toArray := ⟨_, rfl⟩
  have hc1l : cur1.toList.length = c * 2 := by rw [Array.length_toList]; exact hl1
  have hl2 : cur2.size = c * 2 := by rw [hcur2, List.size_toArray, length_splice _ _ _ (by omega), hc1l]
  have hcp1 : ∀ (W : World), W.heap = w.heap → ∀ ty dc sc l1 l2 o1 o2, l1 = n - i → l2 = n + 1 - i → o1 = (i + 1) * 2 → o2 = i * 2 → (Builtin.copy_ #[27, 27] ty #[.slice (some ⟨g, o1, none⟩) l1 dc, .slice (some ⟨g, o2, none⟩) l2 sc]).run Tryd.prog W = .ok (goInt ((n - i : Nat) : Int)) (W.setRow g cur1) := fun W hW ty dc sc l1 l2 o1 o2 e1 e2 e3 e4 => by
    subst e1 e2 e3 e4
    rw [hcur1]
    exact fe W 27 27 ty 60 g ((i + 1) * 2) (n - i) dc ⟨g, i * 2, none⟩ (n + 1 - i) sc cur 60 (flat.drop (i * 2)) (n - i) 2 Tryd.underlying27 Tryd.sizeOf60 (by rw [hW]; exact hg) (by simp only [Nat.min_def]; split <;> omega) hdl
      (fun j v hj => by
        rw [Addr.add_lit]
        simp only [World.cell?, hW, hg]
        rw [List.getElem?_drop] at hj
        exact hfc _ _ hj) (by omega) (fun v hv => h1 v (List.mem_of_mem_drop hv))
  have hg1 : ∀ W : World, W.heap = w.heap → (W.setRow g cur1).heap[g]? = some (.cells cur1 60 (0, 0)) := fun W hW => setRow_heap W g cur cur1 60 (0, 0) (by rw [hW]; exact hg)
  have hv1 : ∀ W : World, W.heap = w.heap → (W.setRow g cur1).heap[vb]? = some (.cells vcur 60 (0, 0)) := fun W hW => by rw [setRow_other W g vb cur1 hne, hW]; exact hvb
  have hcp2 : ∀ (W : World), W.heap[g]? = some (.cells cur1 60 (0, 0)) → W.heap[vb]? = some (.cells vcur 60 (0, 0)) → ∀ ty dc l1 o1, l1 = n + 1 - i → o1 = i * 2 → (Builtin.copy_ #[27, 27] ty #[.slice (some ⟨g, o1, none⟩) l1 dc, .slice (some ⟨vb, 0, none⟩) 1 vc]).run Tryd.prog W = .ok (goInt 1) (W.setRow g cur2) := fun W hW hV ty dc l1 o1 e1 e2 => by
    subst e1 e2
    rw [hcur2]
    exact fe W 27 27 ty 60 g (i * 2) (n + 1 - i) dc ⟨vb, 0, none⟩ 1 vc cur1 60 vs 1 2 Tryd.underlying27 Tryd.sizeOf60 hW (by simp only [Nat.min_def]; split <;> omega) hvl
      (fun j v hj => by
        rw [Addr.add_lit]
        simp only [World.cell?, hV, Nat.zero_add]
        rw [← hvk, List.getElem?_take] at hj
        split at hj
        · simpa using hj
        · cases hj) (by omega) h2
  have hfin : ∀ W : World, W.heap[g]? = some (.cells cur1 60 (0, 0)) → w.grownBy W (some g) → INS w (.slice (some ⟨g, 0, none⟩) n c) n i flat vs (.slice (some ⟨g, 0, none⟩) (n + 1) c) (W.setRow g cur2) := fun W hW hG => by
    have hu : List.take ((n + 1) * 2) cur2.toList = flat.take (i * 2) ++ vs ++ flat.drop (i * 2) := by
      rw [hcur2, hcur1]
      simp only [splice, hvl, hdl, List.toList_toArray]
      have a1 : (cur.toList.take ((i + 1) * 2)).length = (i + 1) * 2 := by rw [List.length_take]; omega
      have b1 : List.take (i * 2) (cur.toList.take ((i + 1) * 2) ++ (flat.drop (i * 2) ++ cur.toList.drop ((i + 1) * 2 + (n - i) * 2))) = flat.take (i * 2) := by
        rw [List.take_append_of_le_length (by omega), List.take_take, ← htk, List.take_take]
        congr 1; omega
      have b2 : List.drop (i * 2 + 2) (cur.toList.take ((i + 1) * 2) ++ (flat.drop (i * 2) ++ cur.toList.drop ((i + 1) * 2 + (n - i) * 2))) = flat.drop (i * 2) ++ cur.toList.drop ((i + 1) * 2 + (n - i) * 2) := by
        rw [List.drop_append, List.drop_of_length_le (by omega), aD, a1, show i * 2 + 2 - (i + 1) * 2 = 0 by omega, List.drop_zero]
      rw [b1, b2, ← List.append_assoc, ← List.append_assoc]
      rw [List.take_append_of_le_length (by simp only [ag, List.length_take, hvl, hdl]; omega)]
      rw [List.take_of_length_le (by simp only [ag, List.length_take, hvl, hdl]; omega)]
    refine ⟨⟨?_, .inr ⟨g, c, cur2, rfl, Nat.zero_le _, setRow_heap W g cur1 cur2 60 (0, 0) hW, hroom, hc, hl2, hu⟩⟩, ⟨hG.os, hG.tape, hG.output, ?_, fun k hk hk2 => ?_⟩, .inl rfl⟩
    · simp only [ag, List.length_take, hvl, hdl]; omega
    · have := hG.size; simpa [World.setRow] using this
    · have hkg : k ≠ g := fun e => hk2 (by rw [e]; rfl)
      rw [setRow_other W g k cur2 hkg]
      exact hG.block k hk (fun e => hkg (Option.some.inj e))
  have hgb : ∀ W : World, W.heap = w.heap → W.os = w.os → W.tape = w.tape → W.output = w.output → w.grownBy (W.setRow g cur1) (some g) := fun W e1 e2 e3 e4 =>
    ⟨e2, e3, e4, by simp [World.setRow, e1], fun k _ hk => by rw [setRow_other W g k cur1 (fun e => hk (by rw [e])), e1]⟩
  clear hcur1 hcur2 hl1 hl2 hc1l hfc hcl hdl hfl htk hvl hvk h1 h2 hvs2
  have mixed := Tryd.mixed
  go_enter Tryd.func96, Tryd.ntmps96
  go_wp2_with (simp only [hov])
  go_region_law_o (refine step_copy_runI rfl _ _ 27 27 rfl (.slice (some ⟨g, (i + 1) * 2, none⟩) (n - i) (c - (i + 1))) (.slice (some ⟨g, i * 2, none⟩) (n + 1 - i) (c - i)) (by simp [Act.eval, Act.put]) (by simp [Act.eval, Act.put]) (hcp1 w.drew rfl _ _ _ _ _ _ _ (by omega) (by omega) (by omega) (by omega)) ?_)
  have hE2 := fun ty dc => hcp2 (w.drew.setRow g cur1) (hg1 w.drew rfl) (hv1 w.drew rfl) ty dc (n + 1 - i) (i * 2) rfl rfl
  go_wp2_with (simp only [hE2])
  go_ret
  exact ⟨_, rfl, hfin (w.drew.setRow g cur1) (hg1 w.drew rfl) (hgb w.drew rfl rfl rfl rfl)⟩
set_option maxHeartbeats 4000000 in
theorem rY (v : Value) (n vb vc : Nat) (vcur : Array Value) (flat vs : List Value) (w : World) (hn : n ≤ 1000000) (hown : w.ownsRow 0 60 2 v n flat)
    (hvb : w.heap[vb]? = some (.cells vcur 60 (0, 0))) (hvl : vs.length = 2) (hvk : vcur.toList.take 2 = vs) (h2 : ∀ v ∈ vs, v.oneCell' = true) :
    Calls Tryd.prog 96 #[v, .int .i64 n, .slice (some ⟨vb, 0, none⟩) 1 vc] w fun e w' => ∃ v', e = .returned v' ∧ INS w v n n flat vs v' w' := by
  obtain ⟨d, i0, z0, g1, g2, g3, g4, g5, g6, g7⟩ := bC Tryd.td60
  have hzs : z0.cells.size = 2 := by
    have := bb (C := ⟨Tryd.prog, fun _ => False, fun _ => False, w, 0, [], fun _ => undef, w⟩) (L := []) (σ := fun _ => undef) (w := w) g4
    rw [← Array.length_toList, ← this.length]; rfl
  obtain ⟨v', w', r1, r2, r3, _, r5⟩ := run_append_own_at (P := Tryd.prog) w 0 27 27 60 i0 z0 2 48 Tryd.underlying27 g2 g3 g5 g6 hzs (by decide) v n flat hown ⟨vb, 0, none⟩ 1 vc vs (by omega)
    (fun j v hj => by
      rw [Addr.add_lit]
      simp only [World.cell?, hvb, Nat.zero_add]
      rw [← hvk, List.getElem?_take] at hj
      split at hj
      · simpa using hj
      · cases hj) h2 (by simp only [maxLen]; omega) (by omega) (Nat.zero_le _)
  have hfl := hown.1
  have hfin : INS w v n n flat vs v' w' := by
    refine ⟨?_, r3, r5⟩
    rw [← hfl, aE, List.drop_length, List.append_nil]; exact r2
  rcases hown.2 with ⟨rfl, rfl⟩ | ⟨g, c, cur, rfl, _, hg, hnc, hcm, hcs, htk⟩
  · clear hown hfl r2 r3 r5 g1 g2 g3 g4 g5 g6 g7 hzs
    have mixed := Tryd.mixed
    go_enter Tryd.func96, Tryd.ntmps96
    go_wp2_with (at_builtin; refine Lib.wpList_append_run _ rfl _ _ _ _ rfl _ _ rfl rfl _ _ r1 ?_)
    go_ret
    exact ⟨_, rfl, hfin⟩
  · clear hown hfl r2 r3 r5 g1 g2 g3 g4 g5 g6 g7 hzs
    have hcm2 : c ≤ 9223372036854775807 := by simp only [maxLen] at hcm; omega
    have mixed := Tryd.mixed
    go_enter Tryd.func96, Tryd.ntmps96
    go_wp2_with (at_builtin; refine Lib.wpList_append_run _ rfl _ _ _ _ rfl _ _ rfl rfl _ _ r1 ?_)
    all_goals (go_ret; exact ⟨_, rfl, hfin⟩)
set_option maxHeartbeats 4000000 in
theorem qD (g n c i vb vc : Nat) (cur vcur : Array Value) (flat vs : List Value) (w : World) (hn : n ≤ 1000000) (hi : i < n) (hnc : n ≤ c) (hroom : c < n + 1) (hcs : cur.size = c * 2)
    (hg : w.heap[g]? = some (.cells cur 60 (0, 0))) (htk : cur.toList.take (n * 2) = flat) (hvb : w.heap[vb]? = some (.cells vcur 60 (0, 0))) (hvl : vs.length = 2) (hvk : vcur.toList.take 2 = vs) (hne : vb ≠ g)
    (h1 : ∀ v ∈ flat, v.oneCell' = true) (h2 : ∀ v ∈ vs, v.oneCell' = true) :
    Calls Tryd.prog 96 #[.slice (some ⟨g, 0, none⟩) n c, .int .i64 i, .slice (some ⟨vb, 0, none⟩) 1 vc] w fun e w' => ∃ v', e = .returned v' ∧ INS w (.slice (some ⟨g, 0, none⟩) n c) n i flat vs v' w' := by
  obtain ⟨d, i0, z0, g1, g2, g3, g4, g5, g6, g7⟩ := bC Tryd.td60
  have hzs : z0.cells.size = 2 := by
    have := bb (C := ⟨Tryd.prog, fun _ => False, fun _ => False, w, 0, [], fun _ => undef, w⟩) (L := []) (σ := fun _ => undef) (w := w) g4
    rw [← Array.length_toList, ← this.length]; rfl
  have hgw : g < w.heap.size := (Array.getElem?_eq_some_iff.1 hg).1
  have hvw : vb < w.heap.size := (Array.getElem?_eq_some_iff.1 hvb).1
  have hfl : flat.length = n * 2 := by rw [← htk, List.length_take, Array.length_toList]; omega
  have hfc : ∀ j v, flat[j]? = some v → cur[j]? = some v := fun j v hj => by
    rw [← htk, List.getElem?_take] at hj
    split at hj
    · simpa using hj
    · cases hj
  have hdl : (flat.drop (i * 2)).length = (n - i) * 2 := by rw [List.length_drop]; omega
  have hik : i + (n + 1 - i) = n + 1 := by omega
  have hkk : (n : Int) + 1 - (i : Int) = ((n + 1 - i : Nat) : Int) := by omega
  have g5' : i0.size = 2 := g5
  have g6' : i0.bytes = 48 := g6
  have hold : (Builtin.firstCells i0.size i (.slice (some ⟨g, 0, none⟩) i c)).run Tryd.prog w.drew = .ok (flat.take (i * 2)).toArray w.drew := by
    rw [g5']
    exact run_firstCells_some w.drew 2 i ⟨g, 0, none⟩ i c (flat.take (i * 2)) (by rw [List.length_take]; omega) (fun j v hj => by
      rw [Addr.add_lit]
      rw [List.getElem?_take] at hj
      split at hj
      · have := hfc j v hj
        simp only [World.cell?, Nat.zero_add]
        show (match w.heap[g]? with | some (.cells c _ _) => _ | _ => none) = _
        rw [hg]; exact this
      · cases hj)
  obtain ⟨G, hG⟩ : ∃ G, G = grownCap w (n + 1) c 60 := ⟨_, rfl⟩
  obtain ⟨ROW, hROW⟩ : ∃ ROW : Array Value, ROW = (flat.take (i * 2)).toArray ++ Builtin.zeroCells z0.cells (n + 1 - i) ++ Builtin.zeroCells z0.cells (G - (n + 1)) := ⟨_, rfl⟩
  have hGn : n + 1 ≤ G := by rw [hG]; exact grownCap_ge w _ _ _
  have hGm : G ≤ maxLen := by rw [hG]; exact grownCap_le_maxLen w (n + 1) c 60 (by unfold maxLen; omega)
  have hG63 : G ≤ 9223372036854775807 := by simp only [maxLen] at hGm; omega
  have hRs : ROW.size = G * 2 := by
    rw [hROW]
    simp only [Array.size_append, List.size_toArray, size_zeroCells, hzs, List.length_take, hfl]
    omega
  have hrz : ∀ ty, (Builtin.append_ #[27, 3] ty #[.slice (some ⟨g, 0, none⟩) i c, .int .i64 ((n : Int) + 1 - (i : Int))]).run Tryd.prog w = .ok (.slice (some ⟨w.heap.size, 0, none⟩) (n + 1) G) (w.drew.alloc (.cells ROW 60)) := fun ty => by
    have h := Lib.run_append_grow_zeros (P := Tryd.prog) w 27 3 ty 60 i0 z0 .i64 .i64 Tryd.underlying27 Tryd.underlying3 g2 g3 (some ⟨g, 0, none⟩) i c (flat.take (i * 2)) hold (n + 1 - i) (by omega) (by omega) (by omega) (by omega) (by rw [g6']; omega) (by rw [g6', hik]; exact growslice_fits (by omega) (by omega))
    rw [hik, ← hG, ← hROW] at h
    rw [hkk]
    exact h
  obtain ⟨r1, hr1⟩ : ∃ r1, r1 = (splice ROW.toList (i * 2) vs).toArray := ⟨_, rfl⟩
  have hl1 : r1.size = G * 2 := by rw [hr1, List.size_toArray, length_splice _ _ _ (by rw [Array.length_toList (xs := ROW)]; omega), Array.length_toList, hRs]
  have hl1' : r1.toList.length = G * 2 := by rw [Array.length_toList]; exact hl1
  have hRl : ROW.toList.length = G * 2 := by rw [Array.length_toList]; exact hRs
  obtain ⟨r2, hr2⟩ : ∃ r2, r2 = (splice r1.toList ((i + 1) * 2) (flat.drop (i * 2))).toArray := ⟨_, rfl⟩
  have hl2 : r2.size = G * 2 := by rw [hr2, List.size_toArray, length_splice _ _ _ (by omega), hl1']
  have hcp1 : ∀ (W : World), W.heap[w.heap.size]? = some (.cells ROW 60 (0, 0)) → W.heap[vb]? = some (.cells vcur 60 (0, 0)) → ∀ ty dc l1 o1, l1 = n + 1 - i → o1 = i * 2 → (Builtin.copy_ #[27, 27] ty #[.slice (some ⟨w.heap.size, o1, none⟩) l1 dc, .slice (some ⟨vb, 0, none⟩) 1 vc]).run Tryd.prog W = .ok (goInt 1) (W.setRow w.heap.size r1) := fun W hW hV ty dc l1 o1 e1 e2 => by
    subst e1 e2
    rw [hr1]
    exact fe W 27 27 ty 60 w.heap.size (i * 2) (n + 1 - i) dc ⟨vb, 0, none⟩ 1 vc ROW 60 vs 1 2 Tryd.underlying27 Tryd.sizeOf60 hW (by simp only [Nat.min_def]; split <;> omega) hvl
      (fun j v hj => by
        rw [Addr.add_lit]
        simp only [World.cell?, hV, Nat.zero_add]
        rw [← hvk, List.getElem?_take] at hj
        split at hj
        · simpa using hj
        · cases hj) (by omega) h2
  have hcp2 : ∀ (W : World), W.heap[w.heap.size]? = some (.cells r1 60 (0, 0)) → W.heap[g]? = some (.cells cur 60 (0, 0)) → ∀ ty dc sc l1 l2 o1 o2, l1 = n - i → l2 = n - i → o1 = (i + 1) * 2 → o2 = i * 2 → (Builtin.copy_ #[27, 27] ty #[.slice (some ⟨w.heap.size, o1, none⟩) l1 dc, .slice (some ⟨g, o2, none⟩) l2 sc]).run Tryd.prog W = .ok (goInt ((n - i : Nat) : Int)) (W.setRow w.heap.size r2) := fun W hW hV ty dc sc l1 l2 o1 o2 e1 e2 e3 e4 => by
    subst e1 e2 e3 e4
    rw [hr2]
    exact fe W 27 27 ty 60 w.heap.size ((i + 1) * 2) (n - i) dc ⟨g, i * 2, none⟩ (n - i) sc r1 60 (flat.drop (i * 2)) (n - i) 2 Tryd.underlying27 Tryd.sizeOf60 hW (by simp only [Nat.min_def]; split <;> omega) hdl
      (fun j v hj => by
        rw [Addr.add_lit]
        simp only [World.cell?, hV]
        rw [List.getElem?_drop] at hj
        exact hfc _ _ hj) (by omega) (fun v hv => h1 v (List.mem_of_mem_drop hv))
  have hu : List.take ((n + 1) * 2) r2.toList = flat.take (i * 2) ++ vs ++ flat.drop (i * 2) := by
    have hRt : ROW.toList.take (i * 2) = flat.take (i * 2) := by
      rw [hROW]
      simp only [Array.toList_append, List.toList_toArray]
      rw [List.take_append_of_le_length (by simp only [ag, List.length_take]; omega), List.take_append_of_le_length (by rw [List.length_take]; omega), List.take_take, Nat.min_self]
    have hfi : (flat.take (i * 2)).length = i * 2 := by rw [List.length_take]; omega
    rw [hr2, hr1]
    simp only [splice, hvl, hdl, List.toList_toArray, hRt]
    have b1 : List.take ((i + 1) * 2) (flat.take (i * 2) ++ (vs ++ ROW.toList.drop (i * 2 + 2))) = flat.take (i * 2) ++ vs := by
      rw [← List.append_assoc, List.take_append_of_le_length (by rw [ag]; omega), List.take_of_length_le (by rw [ag]; omega)]
    rw [b1, ← List.append_assoc, List.take_append_of_le_length (by simp only [ag]; omega), List.take_of_length_le (by simp only [ag]; omega)]
  obtain ⟨W1, hW1⟩ : ∃ W1, W1 = w.drew.alloc (.cells ROW 60) := ⟨_, rfl⟩
  have hN : W1.heap[w.heap.size]? = some (.cells ROW 60 (0, 0)) := by rw [hW1]; exact heap_alloc_new w.drew _
  have hO : ∀ b, b < w.heap.size → W1.heap[b]? = w.heap[b]? := fun b hb => by rw [hW1]; exact heap_alloc_old w.drew _ hb
  have hO1 : W1.os = w.os ∧ W1.tape = w.tape ∧ W1.output = w.output ∧ W1.heap.size = w.heap.size + 1 := by rw [hW1]; exact ⟨rfl, rfl, rfl, by simp [World.alloc]⟩
  rw [← hW1] at hrz
  have hE1 := fun ty dc => hcp1 W1 hN (by rw [hO vb hvw]; exact hvb) ty dc (n + 1 - i) (i * 2) rfl rfl
  have hN2 : ∀ W : World, W.heap = (W1.setRow w.heap.size r1).heap → W.heap[w.heap.size]? = some (.cells r1 60 (0, 0)) := fun W hW => by rw [hW]; exact setRow_heap W1 _ ROW r1 60 (0, 0) hN
  have hV2 : ∀ W : World, W.heap = (W1.setRow w.heap.size r1).heap → W.heap[g]? = some (.cells cur 60 (0, 0)) := fun W hW => by rw [hW, setRow_other W1 _ g r1 (by omega), hO g hgw]; exact hg
  have hfin : ∀ W : World, W.heap = (W1.setRow w.heap.size r1).heap → W.os = W1.os → W.tape = W1.tape → W.output = W1.output → INS w (.slice (some ⟨g, 0, none⟩) n c) n i flat vs (.slice (some ⟨w.heap.size, 0, none⟩) (n + 1) G) (W.setRow w.heap.size r2) := fun W hW e1 e2 e3 => by
    refine ⟨⟨?_, .inr ⟨w.heap.size, G, r2, rfl, Nat.zero_le _, setRow_heap W _ r1 r2 60 (0, 0) (hN2 W hW), hGn, hGm, hl2, hu⟩⟩, ⟨e1.trans hO1.1, e2.trans hO1.2.1, e3.trans hO1.2.2.1, ?_, fun k hk _ => ?_⟩, .inr rfl⟩
    · simp only [ag, List.length_take, hvl, hdl]; omega
    · simp [World.setRow, hW, hO1.2.2.2]
    · rw [setRow_other W _ k r2 (by omega), hW, setRow_other W1 _ k r1 (by omega), hO k hk]
  have hz2 : ¬ ((i : Int) = (n : Int)) := by omega
  have hz3 : (c : Int) < (n : Int) + 1 := by omega
  have hw1 : IntKind.i64.wrap ((i : Int) + 1) = (i : Int) + 1 := by rw [IntKind.wrap_i64]; omega
  have hb1 : (0 : Int) ≤ (i : Int) + 1 := by omega
  have hin : i ≤ n := by omega
  have htn : ((i : Int) + 1).toNat = i + 1 := by omega
  have hGi : ¬ (G = i) := by omega
  have hGim : ¬ (G = i + 1) := by omega
  have hci : ¬ (c = i) := by omega
  have hb3 : (i : Int) ≤ (n : Int) := by omega
  have hcm : c ≤ 9223372036854775807 := by omega
  clear hW1 hu hr1 hr2 hROW hG hRs hold hl1 hl1' hRl hl2 hfc hdl hik hkk g1 g2 g3 g4 g5 g6 g7 g5' g6' hzs h1 h2 htk hvk hfl hN hO hcp1 hGm
  have mixed := Tryd.mixed
  go_enter Tryd.func96, Tryd.ntmps96
  go_wp2_with (at_builtin; refine Lib.wpList_append_run _ rfl _ _ _ _ rfl _ _ rfl rfl _ _ (hrz _) ?_)
  go_wp2_with (simp only [hE1])
  go_region_law_o (refine step_copy_runI rfl _ _ 27 27 rfl (.slice (some ⟨w.heap.size, (i + 1) * 2, none⟩) (n - i) (G - (i + 1))) (.slice (some ⟨g, i * 2, none⟩) (n - i) (c - i)) (by simp [Act.eval, Act.put]) (by simp [Act.eval, Act.put]) (hcp2 (W1.setRow w.heap.size r1).drew (hN2 _ rfl) (hV2 _ rfl) _ _ _ _ _ _ _ (by omega) (by omega) (by omega) (by omega)) ?_)
  go_wp2
  go_ret
  exact ⟨_, rfl, hfin _ rfl rfl rfl rfl⟩
theorem rG (v : Value) (n i vb vc : Nat) (vcur : Array Value) (flat vs : List Value) (w : World) (hn : n ≤ 1000000) (hi : i ≤ n) (hown : w.ownsRow 0 60 2 v n flat)
    (hvb : w.heap[vb]? = some (.cells vcur 60 (0, 0))) (hvl : vs.length = 2) (hvk : vcur.toList.take 2 = vs) (hne : ∀ g, v.ownBlock = some g → vb ≠ g) (h1 : ∀ v ∈ flat, v.oneCell' = true) (h2 : ∀ v ∈ vs, v.oneCell' = true) :
    Calls Tryd.prog 96 #[v, .int .i64 i, .slice (some ⟨vb, 0, none⟩) 1 vc] w fun e w' => ∃ v', e = .returned v' ∧ INS w v n i flat vs v' w' := by
  by_cases he : i = n
  · subst he; exact rY v i vb vc vcur flat vs w hn hown hvb hvl hvk h2
  · rcases hown.2 with ⟨rfl, rfl⟩ | ⟨g, c, cur, rfl, _, hg, hnc, hcm, hcs, htk⟩
    · omega
    · have hne' := hne g rfl
      by_cases hr : n + 1 ≤ c
      · exact p5 g n c i vb vc cur vcur flat vs w (by omega) hr hcm hcs hg htk hvb hvl hvk hne' h1 h2
      · exact qD g n c i vb vc cur vcur flat vs w hn (by omega) hnc (by omega) hcs hg htk hvb hvl hvk hne' h1 h2
end
section
open Go.RowKit
abbrev TRT : Ty := .pair (.list (.int .i64)) (.pair (.list (.int .i64)) .unit)
theorem kT {av : Nat → Prop} {w : World} : ∀ {t : Ty} {d : t.den} {cs : List Value}, Dat av w t d cs → ∀ v ∈ cs, v.oneCell' = true
  | .int _, _, _, h => by simp only [Dat] at h; subst h; intro v hv; rw [List.mem_singleton.1 hv]; rfl
  | .bool, _, _, h => by simp only [Dat] at h; subst h; intro v hv; rw [List.mem_singleton.1 hv]; rfl
  | .str, _, _, h => by simp only [Dat] at h; subst h; intro v hv; rw [List.mem_singleton.1 hv]; rfl
  | .list _, _, _, h => by simp only [Dat] at h; obtain ⟨A, c, rfl, _⟩ := h; intro v hv; rw [List.mem_singleton.1 hv]; rfl
  | .unit, _, _, h => by simp only [Dat] at h; subst h; intro v hv; cases hv
  | .pair a b, (x, y), cs, h => by
    simp only [Dat] at h
    obtain ⟨c1, c2, rfl, h1, h2⟩ := h
    intro v hv
    rcases List.mem_append.1 hv with q | q
    · exact kT h1 v q
    · exact kT h2 v q
theorem ly {av : Nat → Prop} {w : World} {t : Ty} {xs : List t.den} {flat : List Value} (hl : flat.length = xs.length * t.size) (h0 : 0 < t.size)
    (h : ∀ i, i < xs.length → Dat av w t (xs.getD i t.dflt) ((flat.drop (i * t.size)).take t.size)) : ∀ v ∈ flat, v.oneCell' = true := by
  intro v hv
  obtain ⟨j, hj, rfl⟩ := List.getElem_of_mem hv
  have hlt : j / t.size < xs.length := Nat.div_lt_of_lt_mul (by rw [Nat.mul_comm]; omega)
  have h1 := kT (h _ hlt) flat[j] (by
    have e : j = j / t.size * t.size + j % t.size := by rw [Nat.mul_comm]; exact (Nat.div_add_mod j t.size).symm
    have hm := Nat.mod_lt j h0
    rw [List.mem_iff_getElem?]
    refine ⟨j % t.size, ?_⟩
    rw [List.getElem?_take_of_lt hm, List.getElem?_drop, ← e, List.getElem?_eq_getElem hj])
  exact h1
theorem tY {L0 : List AO} {k j ver vj : Nat} {xs : List TRC} {x : TRC} {i : Nat} (hL : L0[k]? = some (.row TRT 60 ver xs)) (hJ : L0[j]? = some (.row TRT 60 vj [x])) (hkj : k ≠ j) (hi : i ≤ xs.length) (hn : xs.length ≤ 1000000) :
    cr Tryd.prog L0 96 [.one (.row k ver), .one (.int .i64 i), .one (.row j vj)] { av := .one (.row k (ver + 1)), upd := [(k, .row TRT 60 (ver + 1) (xs.take i ++ x :: xs.drop i))], fp := [k, j] } := by
  refine ⟨⟨Tryd.f96, Tryd.func96, by kernel_rfl, by kernel_rfl⟩, fun C L σ w vs hP hinv ha hfp hlen => ?_⟩
  match vs, ha with
  | [v1, v2, v3], ⟨h1, h2, h3, _⟩ =>
  have hob : L[k]? = some (.row TRT 60 ver xs) := by rw [hfp k (by simp)]; exact hL
  have hobj : L[j]? = some (.row TRT 60 vj [x]) := by rw [hfp j (by simp)]; exact hJ
  obtain ⟨ob, q1, q2, q3⟩ := h1.2
  rw [hob] at q1; cases q1
  obtain ⟨_, e1⟩ := q3 rfl rfl
  obtain ⟨ob2, p1, p2, p3⟩ := h3.2
  rw [hobj] at p1; cases p1
  obtain ⟨_, e3⟩ := p3 rfl rfl
  have e2 : v2 = .int .i64 i := h2.2
  subst e1 e2 e3
  obtain ⟨flat, f1, f2, f3⟩ := hinv.ob k _ hob
  obtain ⟨flatj, j1, j2, j3⟩ := hinv.ob j _ hobj
  rcases j1.2 with ⟨_, z⟩ | ⟨gj, cj, curj, ej, _, hgj, hnj, hcj, hsj, htj⟩
  · simp at z
  have hone := ly f1.1 f2 f3
  have honej := ly j1.1 j2 j3
  have hsz : TRT.size = 2 := rfl
  have hj3 := j3 0 (by simp)
  have hfj : flatj.length = 2 := by have := j1.1; rw [hsz] at this; simpa using this
  have hblk : blk (σ k) = (σ k).ownBlock := cH (bB f1)
  have hblkj : blk (σ j) = some gj := by rw [ej]; rfl
  have hne : ∀ g, (σ k).ownBlock = some g → gj ≠ g := fun g hg hgg => by
    subst hgg
    exact hkj (hinv.inj k j gj ⟨_, hob, rfl, by rw [hblk]; exact hg⟩ ⟨_, hobj, rfl, hblkj⟩)
  have hvj : σ j = .slice (some ⟨gj, 0, none⟩) 1 cj := ej
  rw [hvj]
  have hc := rG (σ k) xs.length i gj cj curj flat flatj w hn hi f1 hgj hfj (by rw [hsz] at htj; simpa using htj) hne hone honej
  refine hc.mono fun en w' hh => ?_
  obtain ⟨v', e4, r2, r3, r5⟩ := hh
  refine ⟨v', e4, ?_⟩
  have hblk' : blk v' = v'.ownBlock := cH (bB r2)
  have hll : (xs.take i ++ x :: xs.drop i).length = xs.length + 1 := by simp; omega
  refine bo (σ' := sup σ k v') hinv hob r3.size r3.os r3.tape r3.output
    (fun b hb hno => r3.block b hb (fun eb => hno ⟨_, hob, rfl, by rw [hblk]; exact eb.symm⟩)) (fun b hb => bS σ v' hb) ⟨Nat.le_succ _, fun _ h => by simp [AO.ver] at h⟩
    (fun _ b hb => ?_) (fun hp hav => ?_) (fun hI _ => ?_)
  · rw [aI, hblk'] at hb
    rcases r5 with r5 | r5
    · exact .inl ⟨_, hob, rfl, by rw [hblk, ← r5]; exact hb⟩
    · rw [r5] at hb
      simp only [Option.some.injEq] at hb
      exact .inr (by omega)
  · have hkeep : ∀ {t' : Ty} {d : t'.den} {cs : List Value}, Dat (avd C L σ) w t' d cs → Dat (avd C (L.set k (.row TRT 60 (ver + 1) (xs.take i ++ x :: xs.drop i))) (sup σ k v')) w' t' d cs := fun hd =>
      hd.keep r3.size (fun b hb ha => r3.block b hb (fun ej => ha (.inr ⟨k, _, hob, rfl, by rw [hblk]; exact ej.symm⟩))) hav
    refine ⟨flat.take (i * 2) ++ flatj ++ flat.drop (i * 2), by rw [aI, hll]; exact r2, f2, fun q hq => ?_⟩
    rw [hll] at hq
    have hfl : flat.length = xs.length * 2 := f1.1
    have hft : (flat.take (i * 2)).length = i * 2 := by rw [List.length_take]; omega
    rw [hsz]
    by_cases q1 : q < i
    · have e1 : (xs.take i ++ x :: xs.drop i).getD q TRT.dflt = xs.getD q TRT.dflt := by
        simp only [List.getD]
        rw [List.getElem?_append_left (by rw [List.length_take]; omega), List.getElem?_take_of_lt q1]
      have e2 : ((flat.take (i * 2) ++ flatj ++ flat.drop (i * 2)).drop (q * 2)).take 2 = (flat.drop (q * 2)).take 2 := by
        rw [List.append_assoc, List.drop_append_of_le_length (by omega), List.take_append_of_le_length (by rw [List.length_drop]; omega), List.drop_take, List.take_take]
        congr 1; omega
      rw [e1, e2]
      exact hkeep (f3 q (by omega))
    · by_cases q2 : q = i
      · subst q2
        have e1 : (xs.take q ++ x :: xs.drop q).getD q TRT.dflt = x := by
          simp only [List.getD]
          rw [List.getElem?_append_right (by rw [List.length_take]; omega), List.length_take, show q - min q xs.length = 0 by omega]
          rfl
        have e2 : ((flat.take (q * 2) ++ flatj ++ flat.drop (q * 2)).drop (q * 2)).take 2 = flatj := by
          rw [List.append_assoc, List.drop_append, List.drop_of_length_le (by omega), aD, hft, Nat.sub_self, List.drop_zero, List.take_append_of_le_length (by omega), List.take_of_length_le (by omega)]
        rw [e1, e2]
        have e3 : (flatj.drop (0 * TRT.size)).take TRT.size = flatj := by rw [Nat.zero_mul, List.drop_zero, hsz, List.take_of_length_le (by omega)]
        rw [e3] at hj3
        exact hkeep hj3
      · have e1 : (xs.take i ++ x :: xs.drop i).getD q TRT.dflt = xs.getD (q - 1) TRT.dflt := by
          simp only [List.getD]
          rw [List.getElem?_append_right (by rw [List.length_take]; omega), List.length_take, show q - min i xs.length = (q - 1 - i) + 1 by omega, List.getElem?_cons_succ, List.getElem?_drop, show i + (q - 1 - i) = q - 1 by omega]
        have e2 : ((flat.take (i * 2) ++ flatj ++ flat.drop (i * 2)).drop (q * 2)).take 2 = (flat.drop ((q - 1) * 2)).take 2 := by
          rw [List.drop_append, List.drop_of_length_le (by rw [ag]; omega), aD, ag, hft, hfj, List.drop_drop]
          congr 2; omega
        rw [e1, e2]
        exact hkeep (f3 (q - 1) (by omega))
  · have hlt : k < L.length := (List.getElem?_eq_some_iff.1 hob).1
    refine ⟨?_, .row TRT 60 (ver + 1) (xs.take i ++ x :: xs.drop i), by simp [hlt], Nat.le_refl _, fun _ _ => ⟨⟨_, _, _, rfl⟩, (aI _ _ _).symm⟩⟩
    rcases r2.2 with ⟨rfl, _⟩ | ⟨g, cap, cur, rfl, _⟩ <;> rfl
end
/- packTy; ins17 -/
section
open Go.RowKit
theorem qQ {P : Program} {T : TypeId} {td : TD} (h : aF P T = some td) (hz : td.zero = [.nils, .nils]) : ∃ z, (∀ w, (zeroValue T).run P w = .ok z w) ∧ z.cells = #[.slice none 0 0, .slice none 0 0] := by
  obtain ⟨d, i, z, h1, h2, h3, h4, h5, h6, h7⟩ := bC h
  refine ⟨z, fun w => by simp [zeroValue, typeInfo, h2, h3], ?_⟩
  have hr := bb (C := ⟨P, fun _ => False, fun _ => False, default, 0, [], fun _ => undef, default⟩) (L := []) (σ := fun _ => undef) (w := default) h4
  rw [hz] at hr
  apply Array.ext'
  match hq : z.cells.toList, hr with
  | [a, b], hr =>
    obtain ⟨⟨_, ha⟩, ⟨_, hb⟩, _⟩ := hr
    rw [show a = .slice none 0 0 from ha, show b = .slice none 0 0 from hb]
theorem qb (m : Nat) : (Builtin.zeroCells #[Value.slice none 0 0, Value.slice none 0 0] m).toList = List.replicate (m * 2) (.slice none 0 0) := by
  have h0 : (Builtin.zeroCells #[Value.slice none 0 0, Value.slice none 0 0] m).toList = (List.range (m * 2)).map (fun i => #[Value.slice none 0 0, Value.slice none 0 0][i % 2]!) := by
    simp [Builtin.zeroCells]
  rw [h0]
  refine List.ext_getElem (by simp) fun i h1 h2 => ?_
  rw [List.getElem_map, List.getElem_range, List.getElem_replicate]
  rcases Nat.mod_two_eq_zero_or_one i with e | e <;> rw [e] <;> rfl
theorem uc {w : World} {v : Value} {n i : Nat} {flat : List Value} (hown : w.ownsRow 0 60 2 v n flat) (hi : i ≤ n) :
    ∃ v2 w', (Instr.sliceAt 27 v (some (.int .i64 i)) none none).run Tryd.prog w = .ok v2 w ∧ (∀ ty, (Builtin.clear_ #[27] ty #[v2]).run Tryd.prog w = .ok (.tuple #[]) w') ∧
      w'.ownsRow 0 60 2 v n (flat.take (i * 2) ++ List.replicate ((n - i) * 2) (.slice none 0 0)) ∧ w.grownBy w' v.ownBlock := by
  obtain ⟨d, hd, hkd, hu⟩ := aY Tryd.td27 w
  have := bc hkd; subst this
  have hfl := hown.1
  rcases hown.2 with ⟨e2, e3⟩ | ⟨g, cap, cur, e2, g1, g2, g3, g4, g5, g6⟩
  · subst e2 e3
    have hi0 : i = 0 := by omega
    subst hi0
    have hx : flat = [] := List.eq_nil_of_length_eq_zero (by simpa using hfl)
    subst hx
    refine ⟨.slice none 0 0, w, ?_, fun ty => ?_, hown, World.grownBy.refl w _⟩
    · have hb := cw (P := Tryd.prog) (w := w) (isSlice := true) (len := 0) (cap := 0) (lo := some (.int .i64 ((0 : Nat) : Int))) (hi := none) (l := 0) (h := 0) (Int.le_refl 0) (Int.le_refl 0) (by omega) (Nat.le_refl _) (.inr ⟨_, rfl⟩) (.inl ⟨rfl, rfl⟩)
      simp only [Instr.sliceAt, Sem.run_bind, hd, Result.andThen_ok, Instr.slice, hb, aZ Tryd.td60 w, Sem.run_pure]
      simp
    · simp [Builtin.clear_, run_underlying Tryd.underlying27]
  · subst e2
    have hb := cw (P := Tryd.prog) (w := w) (isSlice := true) (len := n) (cap := cap) (lo := some (.int .i64 (i : Int))) (hi := none) (l := i) (h := n) (by omega) (by omega) (Int.le_refl _) g3 (.inr ⟨_, rfl⟩) (.inl ⟨rfl, rfl⟩)
    obtain ⟨z, hz1, hz2⟩ := qQ Tryd.td60 rfl
    by_cases hin : i = n
    · subst hin
      refine ⟨if cap - i = 0 then .slice (some ⟨g, 0, none⟩) 0 0 else .slice (some ⟨g, i * 2, none⟩) 0 (cap - i), w, ?_, fun ty => ?_, by simpa [← hfl] using hown, World.grownBy.refl w _⟩
      · simp only [Instr.sliceAt, Sem.run_bind, hd, Result.andThen_ok, Instr.slice, hb, aZ Tryd.td60 w, Sem.run_pure]
        by_cases hc : cap = i
        · simp [hc]
        · have : ¬ cap - i = 0 := by omega
          simp [hc, this, add_lit]
      · split <;> simp [Builtin.clear_, run_underlying Tryd.underlying27]
    · have hst := run_storeCells_at Tryd.prog g (i * 2) 60 (List.replicate ((n - i) * 2) (.slice none 0 0)) 0 cur w g2 (by simp; omega) (by intro u hu'; rw [List.eq_of_mem_replicate hu']; rfl)
      simp only [Nat.add_zero, bm] at hst
      refine ⟨.slice (some ⟨g, i * 2, none⟩) (n - i) (cap - i), w.setRow g (cur.toList.take (i * 2) ++ List.replicate ((n - i) * 2) (Value.slice none 0 0) ++ cur.toList.drop (i * 2 + (n - i) * 2)).toArray, ?_, fun ty => ?_, ?_, ?_⟩
      · simp only [Instr.sliceAt, Sem.run_bind, hd, Result.andThen_ok, Instr.slice, hb, aZ Tryd.td60 w, Sem.run_pure]
        have hc : ¬ cap = i := by omega
        simp [hc, add_lit]
        try omega
      · obtain ⟨m, hm⟩ : ∃ m, n - i = m + 1 := ⟨n - i - 1, by omega⟩
        rw [hm] at hst ⊢
        simp [Builtin.clear_, run_underlying Tryd.underlying27, hz1, hz2, qb, hst]
      · have hcl : cur.toList.length = cap * 2 := by rw [Array.length_toList]; exact g5
        refine ⟨by simp; omega, .inr ⟨g, cap, _, rfl, g1, setRow_heap w g cur _ 60 _ g2, g3, g4, by simp; omega, ?_⟩⟩
        rw [← g6, List.take_take, Nat.min_eq_left (by omega), List.toList_toArray, List.take_append_of_le_length (by simp; omega), List.take_of_length_le (by simp; omega)]
      · exact ⟨rfl, rfl, rfl, by simp [World.setRow], fun k _ hk => setRow_other w g k _ (fun e => hk (by rw [e]; rfl))⟩
theorem rO {a : Act} {d t : Nat} (v : Value) (h : d ≠ t) : (a.put (some d) v).tmps.getD t undef = a.tmps.getD t undef := by
  simp only [Act.put, Array.getD_eq_getD_getElem?, Array.getElem?_setIfInBounds_ne h]
theorem fT {a : Act} {d t : Nat} (v : Value) (h : d ≠ t) : (a.put (some d) v).eval (.tmp t) = a.eval (.tmp t) := by
  have := rO (a := a) (d := d) (t := t) v h
  exact this
theorem ku {a : Act} {d : Nat} (v : Value) (h : d < a.tmps.size) : (a.put (some d) v).eval (.tmp d) = v := by
  simp [Act.eval, Act.put, Array.getD, h]
theorem s7 {C : Ctx} {Q : Exit → St → Prop} {s : St} {id N : Nat} {x0 x1 : Nat} {d0 d1 d2 : Nat} {o0 o1 o2 o3 : Oper} {k ver i : Nat} {zs : List TRC} (hP : C.P = Tryd.prog) (hN : C.N = N)
    (hg0 : o0.guard = none) (hg1 : o1.guard = none) (hg2 : o2.guard = none) (hg3 : o3.guard = none)
    (h0 : o0.op = .move (.tmp x0)) (h0d : o0.dst = some d0) (h1 : o1.op = .move (.tmp x1)) (h1d : o1.dst = some d1)
    (h2 : o2.op = .slice 27 (.tmp d0) (some (.tmp d1)) none none) (h2d : o2.dst = some d2) (h3 : o3.op = .call { callee := .builtin .clear, args := #[.tmp d2], argTypes := #[27] }) (h3d : o3.dst = none)
    (hn : (d0 < N ∧ d1 < N ∧ d2 < N) ∧ d0 ≠ x1 ∧ d0 ≠ d1 ∧ d1 ≠ d2 ∧ d0 ≠ d2)
    (e0 : ev s.env (.tmp x0) = .one (.row k ver)) (e1 : ev s.env (.tmp x1) = .one (.int .i64 i)) (hL : s.L[k]? = some (.row TRT 60 ver zs)) (hi : i ≤ zs.length)
    (u0 : lkp s.env d0 = .undef ∧ lkp s.env d1 = .undef ∧ lkp s.env d2 = .undef)
    (h : Q .normal { env := s.env, L := s.L.set k (.row TRT 60 ver (zs.take i ++ List.replicate (zs.length - i) ([], ([], ())))) }) : AWP C (.region id [o0, o1, o2, o3].toArray false) Q s := by
  intro σ a w hr
  obtain ⟨⟨n0, n1, n2⟩, n3, n4, n5, n6⟩ := hn
  have hv := hr.ev (.tmp x0)
  rw [e0] at hv
  obtain ⟨ob, q2, q3, q4⟩ := hv.2
  rw [hL] at q2; cases q2
  obtain ⟨_, ev0⟩ := q4 rfl rfl
  have ev1 : a.eval (.tmp x1) = .int .i64 i := by have := hr.ev (.tmp x1); rw [e1] at this; exact this.2
  obtain ⟨flat, f1, f2, f3⟩ := hr.inv.ob k _ hL
  obtain ⟨v2, w', r1, r2, r3, r4⟩ := uc f1 hi
  have hsz : a.tmps.size = N := hr.size.trans hN
  refine wp_region_lit ?_
  refine wpList_plain hg0 fun K0 k0 => dg (Post := fun v w1 => v = σ k ∧ w1 = w) (by simp only [h0, execOp, Sem.run_pure, aU]; exact ⟨ev0, trivial⟩) fun v w1 hh => k0 _ _ ?_
  obtain ⟨rfl, rfl⟩ := hh
  rw [h0d]
  refine wpList_plain hg1 fun K1 k1 => dg (Post := fun v w2 => v = .int .i64 i ∧ w2 = w1) (by simp only [h1, execOp, Sem.run_pure, aU]; exact ⟨by rw [fT _ n3]; exact ev1, trivial⟩) fun v w2 hh => k1 _ _ ?_
  obtain ⟨rfl, rfl⟩ := hh
  rw [h1d]
  have s1 : (a.put (some d0) (σ k)).tmps.size = N := by simp [Act.put, hsz]
  have s2 : ((a.put (some d0) (σ k)).put (some d1) (.int .i64 i)).tmps.size = N := by simp [Act.put, hsz]
  refine wpList_plain hg2 fun K2 k2 => dg (Post := fun v w3 => v = v2 ∧ w3 = w2) ?_ fun v w3 hh => k2 _ _ ?_
  · have g0 : ((a.put (some d0) (σ k)).put (some d1) (.int .i64 i)).eval (.tmp d0) = σ k := by rw [fT _ (Ne.symm n4), ku _ (by omega)]
    have g1 : ((a.put (some d0) (σ k)).put (some d1) (.int .i64 i)).eval (.tmp d1) = .int .i64 i := ku _ (by omega)
    simp only [h2, execOp, Option.map_some, Option.map_none, g0, g1, hP, Sem.run_bind, r1, Result.andThen_ok, Sem.run_pure, aU]
    exact ⟨trivial, trivial⟩
  obtain ⟨rfl, rfl⟩ := hh
  rw [h2d]
  have hr4 : blk (σ k) = (σ k).ownBlock := cH (bB f1)
  have hlt : k < s.L.length := (List.getElem?_eq_some_iff.1 hL).1
  have hll : (zs.take i ++ List.replicate (zs.length - i) (([], ([], ())) : TRC)).length = zs.length := by simp; omega
  have hdone : fD C s.L σ w3 { av := .tup [], upd := [(k, .row TRT 60 ver (zs.take i ++ List.replicate (zs.length - i) ([], ([], ()))))], fp := [k] } (.tuple #[]) w' := by
    refine bo (σ' := σ) hr.inv hL r4.size r4.os r4.tape r4.output
      (fun b hb hno => r4.block b hb (fun eb => hno ⟨_, hL, rfl, by rw [hr4]; exact eb.symm⟩)) (fun _ _ => rfl) ⟨Nat.le_refl _, fun _ _ => ⟨rfl, rfl, rfl, _, rfl⟩⟩
      (fun _ b hb => .inl ⟨_, hL, rfl, hb⟩) (fun hp hav => ?_) (fun _ _ => ⟨[], rfl, trivial⟩)
    have hkeep : ∀ {t' : Ty} {d : t'.den} {cs : List Value}, Dat (avd C s.L σ) w3 t' d cs → Dat (avd C (s.L.set k (.row TRT 60 ver (zs.take i ++ List.replicate (zs.length - i) ([], ([], ()))))) σ) w' t' d cs := fun hd =>
      hd.keep r4.size (fun b hb ha => r4.block b hb (fun ej => ha (.inr ⟨k, _, hL, rfl, by rw [hr4]; exact ej.symm⟩))) hav
    refine ⟨_, by rw [hll]; exact r3, f2, fun q hq => ?_⟩
    rw [hll] at hq
    have hfl : flat.length = zs.length * 2 := f1.1
    have hsz2 : TRT.size = 2 := rfl
    rw [hsz2]
    by_cases q1 : q < i
    · have e1 : (zs.take i ++ List.replicate (zs.length - i) (([], ([], ())) : TRC)).getD q TRT.dflt = zs.getD q TRT.dflt := by
        simp only [List.getD]
        rw [List.getElem?_append_left (by rw [List.length_take]; omega), List.getElem?_take_of_lt q1]
      have e2 : ((flat.take (i * 2) ++ List.replicate ((zs.length - i) * 2) (Value.slice none 0 0)).drop (q * 2)).take 2 = (flat.drop (q * 2)).take 2 := by
        rw [List.drop_append_of_le_length (by rw [List.length_take]; omega), List.take_append_of_le_length (by rw [List.length_drop, List.length_take]; omega), List.drop_take, List.take_take, show min 2 (i * 2 - q * 2) = 2 by omega]
      rw [e1, e2]
      exact hkeep (f3 q (by omega))
    · have e1 : (zs.take i ++ List.replicate (zs.length - i) (([], ([], ())) : TRC)).getD q TRT.dflt = ([], ([], ())) := by
        simp only [List.getD]
        rw [List.getElem?_append_right (by rw [List.length_take]; omega), List.length_take, List.getElem?_replicate, if_pos (by omega)]
        rfl
      have e2 : ((flat.take (i * 2) ++ List.replicate ((zs.length - i) * 2) (Value.slice none 0 0)).drop (q * 2)).take 2 = [.slice none 0 0, .slice none 0 0] := by
        rw [List.drop_append, List.drop_of_length_le (by rw [List.length_take]; omega), aD, List.length_take, List.drop_replicate, List.take_replicate, show min 2 ((zs.length - i) * 2 - (q * 2 - min (i * 2) flat.length)) = 2 by omega, List.replicate_succ, List.replicate_succ, List.replicate_zero]
      rw [e1, e2]
      show Dat _ _ TRT (([], ([], ())) : TRC) _
      exact ⟨[.slice none 0 0], [.slice none 0 0], rfl, d7 _, ⟨[.slice none 0 0], [], rfl, d7 _, rfl⟩⟩
  obtain ⟨σ', hI, _, hPr⟩ := hdone
  have happ : app s.L { av := AV.tup [], upd := [(k, .row TRT 60 ver (zs.take i ++ List.replicate (zs.length - i) ([], ([], ()))))], fp := [k] } = s.L.set k (.row TRT 60 ver (zs.take i ++ List.replicate (zs.length - i) ([], ([], ())))) := by simp [app, bh]
  rw [happ] at hI hPr
  have s3 : (((a.put (some d0) (σ k)).put (some d1) (.int .i64 i)).put (some d2) v).tmps.size = N := by simp [Act.put, hsz]
  refine wpList_plain hg3 fun K3 k3 => dg (Post := fun v w4 => w4 = w') ?_ fun v3 w4 hh => k3 _ _ ?_
  · have g2 : (((a.put (some d0) (σ k)).put (some d1) (.int .i64 i)).put (some d2) v).eval (.tmp d2) = v := ku _ (by omega)
    simp only [h3, execOp, resolve, invoke, builtin, g2, hP, Sem.run_bind, Sem.run_pure, Result.andThen_ok, List.map_toArray, aR, bf, r2, aU]
  subst hh
  rw [h3d]
  refine wpList_nil ?_
  refine ⟨_, σ', h, hI, fun t => ?_, ?_, ?_, hr.pres.trans hPr⟩
  · show RV C (s.L.set k _) σ' w4 (lkp s.env t) _
    by_cases t0 : t = d0
    · subst t0; rw [u0.1]; trivial
    by_cases t1 : t = d1
    · subst t1; rw [u0.2.1]; trivial
    by_cases t2 : t = d2
    · subst t2; rw [u0.2.2]; trivial
    have : ((((a.put (some d0) (σ k)).put (some d1) (.int .i64 i)).put (some d2) v).put none v3).tmps.getD t undef = a.tmps.getD t undef := by
      have p1 := fT (a := (a.put (some d0) (σ k)).put (some d1) (.int .i64 i)) v (Ne.symm t2)
      have p2 := fT (a := a.put (some d0) (σ k)) (.int .i64 i) (Ne.symm t1)
      have p3 := fT (a := a) (σ k) (Ne.symm t0)
      exact p1.trans (p2.trans p3)
    rw [this]
    exact hPr.rv (hr.env t)
  · show (((a.put (some d0) (σ k)).put (some d1) (.int .i64 i)).put (some d2) v).tmps.size = C.N
    rw [s3, hN]
  · exact hr.defers
theorem oT {C : Ctx} {L0 : List AO} {o : Oper} {opn : Operand → AV} {x y z : Operand} {ats : Array TypeId} {k : IntKind} {a b c : Int} (ho : o.op = .call { callee := .builtin .min, args := #[x, y, z], argTypes := ats }) (hx' : opn x = .one (.int k a)) (hy' : opn y = .one (.int k b)) (hz' : opn z = .one (.int k c)) : aT C L0 o opn { av := .one (.int k (min (min a b) c)) } := by
  intro L σ w ρ hi hx hfp hlen
  have hx1 := hx x (by simp [ho, Op.operands, Call.operands])
  have hx2 := hx y (by simp [ho, Op.operands, Call.operands])
  have hx3 := hx z (by simp [ho, Op.operands, Call.operands])
  rw [hx'] at hx1
  rw [hy'] at hx2
  rw [hz'] at hx3
  have e1 : ρ x = .int k a := hx1.2
  have e2 : ρ y = .int k b := hx2.2
  have e3 : ρ z = .int k c := hx3.2
  have hrun : (Builtin.min_ ats o.type #[.int k a, .int k b, .int k c]).run C.P w = .ok (.int k (min (min a b) c)) w := by
    simp [Builtin.min_, Builtin.min2, pL]
  simp only [ho, execOp, resolve, invoke, builtin, List.map_toArray, aR, bf, e1, e2, e3, Sem.run_bind, Sem.run_pure, Result.andThen_ok, hrun, aU]
  exact aJ hi ⟨rfl, rfl⟩
end
theorem oZ (v w : List Int) (hv : v.length ≤ 1000000) (hw : w.length ≤ 1000000) : aW Tryd.prog 102 [.one (.list (.int .i64) v), .one (.list (.int .i64) w)] (.one (.int .i64 (cmn v w : Int))) := by
 obtain ⟨n, hn⟩ : ∃ n, n = min v.length w.length := ⟨_, rfl⟩
 have hnm : min (v.length : Int) (w.length : Int) = (n : Int) := by omega
 refine aA Tryd.func102 rfl (by kernel_rfl) (Nat.le_of_ble_eq_true rfl) rfl fun C hP hN hB => ?_
 replace hN : C.N = 30 := hN
 simp only [aL, D]
 refine Z fun _ k1 => ?_
 refine a9 hP hN rfl ?_
 (refine V rfl fun _ k0 => ?_; simp only [zO, zT, acs, reduceCtorEq, J, D, M, U, O, S, ae]; (repeat refine an ?_); (try refine .inl ?_); apply k0; clear k0; simp only [zP, D])
 refine aa ?_
 apply k1; clear k1; refine kp [0, 1, 4] ?_
 refine Z fun _ k2 => ?_
 refine Z fun _ k3 => ?_
 refine a9 hP hN rfl ?_
 iterate 6 (refine V rfl fun _ k0 => ?_; simp only [zO, zT, acs, reduceCtorEq, J, D, M, U, O, S, ae]; (repeat refine an ?_); (try refine .inl ?_); apply k0; clear k0; simp only [zP, D])
 refine aa ?_
 apply k3; clear k3; refine kp [0, 1, 4, 10, 11] ?_
 refine az ?_
 refine aX (fun n4 s4 => ∃ (k : Nat), (k ≤ n) ∧ (∀ j, j < k → v.getD j 0 = w.getD j 0) ∧ n4 = n - k ∧ s4 = { env := [(0, .one (.list (.int .i64) v)), (1, .one (.list (.int .i64) w)), (4, .one (.int .i64 0)), (10, .one (.int .i64 (n : Int))), (11, .one (.int .i64 (k : Int)))], L := [] }) ?_ ?_
 ·refine ⟨_, _, aw [0, 1, 4, 10, 11], 0, Nat.zero_le _, fun j h => by omega, rfl, ?_⟩
  rw [← hnm]; rfl
 rintro n4 s4 ⟨k, hk, hj, rfl, rfl⟩
 refine Z fun _ k5 => ?_
 refine a9 hP hN rfl ?_
 (refine V rfl fun _ k0 => ?_; simp only [zO, zT, acs, reduceCtorEq, J, D, M, U, O, S, ae]; (repeat refine an ?_); (try refine .inl ?_); apply k0; clear k0; simp only [zP, D])
 refine aa ?_
 apply k5; clear k5; refine kp [0, 1, 4, 10, 11, 12] ?_
 refine Z fun _ k6 => ?_
 refine cd (fun hc7 => ?_) (fun hc7 => ?_)
 ·(try simp only [zB, reduceCtorEq] at hc7)
  refine am ?_
  apply k6; clear k6; refine kp [0, 1, 4, 10, 11, 12] ?_
  refine Z fun _ k8 => ?_
  refine az ?_
  refine Z fun _ k9 => ?_
  have hkv : k < v.length := by omega
  have hkw : k < w.length := by omega
  refine a9 hP hN rfl ?_
  iterate 2 (refine V rfl fun _ k0 => ?_; simp only [zO, zT, acs, reduceCtorEq, J, D, M, U, O, S, ae]; (repeat refine an ?_); (try refine .inl ?_); apply k0; clear k0; simp only [zP, D])
  refine aa ?_
  apply k9; clear k9; refine kp [0, 1, 4, 5, 10, 11, 12] ?_
  refine Z fun _ k10 => ?_
  refine bV hP hN Tryd.mixed rfl ?_
  iterate 9 (refine V rfl fun _ k0 => ?_; simp only [zO, zT, acs, reduceCtorEq, J, D, M, U, O, S, ae]; (repeat refine an ?_); (try refine .inl ?_); apply k0; clear k0; simp only [zP, D])
  refine aa ?_
  refine ⟨by kernel_rfl, ?_⟩
  apply k10; clear k10; refine kp [0, 1, 4, 5, 10, 11, 12, 22] ?_
  refine cd (fun hc11 => ?_) (fun hc11 => ?_)
  ·(try simp only [zB, reduceCtorEq] at hc11)
   have hne : ¬ v.getD k 0 = w.getD k 0 := hc11
   refine Z fun _ k12 => ?_
   refine a9 hP hN rfl ?_
   iterate 2 (refine V rfl fun _ k0 => ?_; simp only [zO, zT, acs, reduceCtorEq, J, D, M, U, O, S, ae]; (repeat refine an ?_); (try refine .inl ?_); apply k0; clear k0; simp only [zP, D])
   refine aa ?_
   apply k12; clear k12; refine kp [0, 1, 4, 5, 10, 11, 12, 22] ?_
   refine ak ?_
   refine ⟨nr, _, rfl, ?_⟩; simp only [zF, zP, J, D, ae]
   refine VLE.of_eq ?_
   refine congrArg (fun n => AV.one (AC.int IntKind.i64 n)) ?_
   symm
   first
   | exact congrArg Int.ofNat (dR hj (by omega) (by omega) fun h9 => hne h9.2.2)
   | (rw [hnm, ← hkn]; exact congrArg Int.ofNat (dR hj (by omega) (by omega) (by omega)))
  (try simp only [zB, reduceCtorEq] at hc11)
  have heq : v.getD k 0 = w.getD k 0 := by simpa using hc11
  refine am ?_
  apply k8; clear k8; refine kp [0, 1, 4, 5, 10, 11, 12, 22] ?_
  refine a9 hP hN rfl ?_
  iterate 2 (refine V rfl fun _ k0 => ?_; simp only [zO, zT, acs, reduceCtorEq, J, D, M, U, O, S, ae]; (repeat refine an ?_); (try refine .inl ?_); apply k0; clear k0; simp only [zP, D])
  refine aa ?_
  refine ⟨_, _, ?_, aw [0, 1, 4, 10, 11], k + 1, by omega, fun j h => ?_, rfl, rfl⟩
  · omega
  · by_cases e : j = k
    · rw [e]; exact heq
    · exact hj j (by omega)
 (try simp only [zB, reduceCtorEq] at hc7)
 refine aV ?_
 apply k2; clear k2; refine kp [0, 1, 4, 10, 11, 12] ?_
 refine Z fun _ k13 => ?_
 have hkn : k = n := by omega
 refine a9 hP hN rfl ?_
 iterate 6 (refine V rfl fun _ k0 => ?_; simp only [zO, zT, acs, reduceCtorEq, J, D, M, U, O, S, ae]; (repeat refine an ?_); (try refine .inl ?_); apply k0; clear k0; simp only [zP, D])
 refine aa ?_
 apply k13; clear k13; refine kp [0, 1, 4, 10, 11, 12] ?_
 refine ak ?_
 refine ⟨nr, _, rfl, ?_⟩; simp only [zF, zP, J, D, ae]
 refine VLE.of_eq ?_
 refine congrArg (fun n => AV.one (AC.int IntKind.i64 n)) ?_
 symm
 first
 | exact congrArg Int.ofNat (dR hj (by omega) (by omega) fun h9 => hne h9.2.2)
 | (rw [hnm, ← hkn]; exact congrArg Int.ofNat (dR hj (by omega) (by omega) (by omega)))
theorem oX (v w : List Int) (hv : v.length ≤ 1000000) (hw : w.length ≤ 1000000) : aW Tryd.prog 91 [.one (.list (.int .i64) v), .one (.list (.int .i64) w)] (.one (.bool (pfB v w))) := by
 refine aA Tryd.func91 rfl (by kernel_rfl) (Nat.le_of_ble_eq_true rfl) rfl fun C hP hN hB => ?_
 replace hN : C.N = 11 := hN
 simp only [aL, D]
 refine Z fun _ k1 => ?_
 refine a9 hP hN rfl ?_
 (refine V rfl fun _ k0 => ?_; simp only [zO, zT, acs, reduceCtorEq, J, D, M, U, O, S]; (repeat refine an ?_); (try refine .inl ?_); apply k0; clear k0; simp only [zP, D])
 refine aa ?_
 apply k1; clear k1; refine kp [0, 1, 4] ?_
 refine Z fun _ k2 => ?_
 refine a9 hP hN rfl ?_
 iterate 2 (refine V rfl fun _ k0 => ?_; simp only [zO, zT, acs, reduceCtorEq, J, D, M, U, O, S]; (repeat refine an ?_); (try refine .inl ?_); apply k0; clear k0; simp only [zP, D])
 refine V rfl fun _ k0 => ?_
 refine ar (h := ah (oZ v w hv hw)) rfl rfl (by first | exact rfl | (simp only [ev, zP, J, D]; exact rfl)) (by simp only [zV, acs, reduceCtorEq, J, D, M, U, O, S]) ?_
 apply k0; clear k0; simp only [zP, D]
 iterate 4 (refine V rfl fun _ k0 => ?_; simp only [zO, zT, acs, reduceCtorEq, J, D, M, U, O, S]; (repeat refine an ?_); (try refine .inl ?_); apply k0; clear k0; simp only [zP, D])
 refine aa ?_
 apply k2; clear k2; refine kp [0, 1, 4] ?_
 refine ak ?_
 refine ⟨nr, _, rfl, ?_⟩; simp only [zF, zP, J, D]
 refine VLE.of_eq ?_
 rfl
theorem pJ (a1 a2 : List Int) (u : TRC) (h1 : a1.length ≤ 100000) (h2 : u.1.length ≤ 100000) : aW Tryd.prog 93 [.agg [.list (.int .i64) u.1, .list (.int .i64) u.2.1], .one (.pat (.pair (.list (.int .i64)) (.pair (.list (.int .i64)) .unit)) (a1, (a2, ())) 0)] (.one (.bool (pfB a1 u.1))) := by
 refine aA Tryd.func93 rfl (by kernel_rfl) (Nat.le_of_ble_eq_true rfl) rfl fun C hP hN hB => ?_
 replace hN : C.N = 9 := hN
 simp only [aL, D]
 refine Z fun _ k1 => ?_
 refine a9 hP hN rfl ?_
 iterate 2 (refine V rfl fun _ k0 => ?_; simp only [zO, zT, acs, reduceCtorEq, J, D, M, U, O, S]; (repeat refine an ?_); (try refine .inl ?_); apply k0; clear k0; simp only [zP, D])
 refine aa ?_
 apply k1; clear k1; refine kp [0, 1, 2, 3] ?_
 refine Z fun _ k2 => ?_
 refine a9 hP hN rfl ?_
 iterate 4 (refine V rfl fun _ k0 => ?_; simp only [zO, zT, acs, reduceCtorEq, J, D, M, U, O, S]; (repeat refine an ?_); (try refine .inl ?_); apply k0; clear k0; simp only [zP, D])
 refine V rfl fun _ k0 => ?_
 refine ar (h := ah (oX a1 u.1 (by omega) (by omega))) rfl rfl (by first | exact rfl | (simp only [ev, zP, J, D]; exact rfl)) (by simp only [zV, acs, reduceCtorEq, J, D, M, U, O, S]) ?_
 apply k0; clear k0; simp only [zP, D]
 (refine V rfl fun _ k0 => ?_; simp only [zO, zT, acs, reduceCtorEq, J, D, M, U, O, S]; (repeat refine an ?_); (try refine .inl ?_); apply k0; clear k0; simp only [zP, D])
 refine aa ?_
 apply k2; clear k2; refine kp [0, 1, 2, 3] ?_
 refine ak ?_
 refine ⟨nr, _, rfl, ?_⟩; simp only [zF, zP, J, D]
 refine VLE.of_eq ?_
 rfl
theorem tk (xs : List TRC) (f : Nat) (caps : List Cap) (p : TRC → Bool) (hcap : caps.all gR = true) (hf : ∀ k x1 x2, k < xs.length → xs.getD k aP = (x1, (x2, ())) → aW Tryd.prog f (.agg [.list (.int .i64) x1, .list (.int .i64) x2] :: caps.map bQ) (.one (.bool (p (x1, (x2, ())))))) : aW Tryd.prog 103 [.one (.list (.pair (.list (.int .i64)) (.pair (.list (.int .i64)) .unit)) xs), .one (.fn f caps)] (.one (.int .i64 (dJ p xs))) := by
 refine aA Tryd.func103 rfl (by kernel_rfl) (Nat.le_of_ble_eq_true rfl) (by simp only [List.all_cons, List.all_nil, fj, fW, fK, hcap, Bool.and_true]) fun C hP hN hB => ?_
 replace hN : C.N = 19 := hN
 simp only [aL, D]
 refine cO 0 rfl fun hf0 => ?_; simp only [lkp, if_true, if_false, reduceCtorEq, J, eq_self, Nat.one_ne_zero, Nat.zero_ne_one, eT, eu, eD, Fit, and_true, implies_true, true_and] at hf0
 refine Z fun _ k1 => ?_
 refine a9 hP hN rfl ?_
 (refine V rfl fun _ k0 => ?_; simp only [zO, zT, acs, reduceCtorEq, J, D, M, U, O, S]; (repeat refine an ?_); (try refine .inl ?_); apply k0; clear k0; simp only [zP, D])
 refine aa ?_
 apply k1; clear k1; refine kp [0, 1, 4] ?_
 refine Z fun _ k2 => ?_
 refine Z fun _ k3 => ?_
 refine a9 hP hN rfl ?_
 iterate 3 (refine V rfl fun _ k0 => ?_; simp only [zO, zT, acs, reduceCtorEq, J, D, M, U, O, S]; (repeat refine an ?_); (try refine .inl ?_); apply k0; clear k0; simp only [zP, D])
 refine aa ?_
 apply k3; clear k3; refine kp [0, 1, 4, 7, 8] ?_
 refine az ?_
 refine aX (fun n4 s4 => ∃ (k : Nat), (k ≤ xs.length) ∧ (∀ q : Nat, q < k → p (xs.getD q aP) = false) ∧ n4 = xs.length - k ∧ s4 = { env := [(0, .one (.list (.pair (.list (.int .i64)) (.pair (.list (.int .i64)) .unit)) xs)), (1, .one (.fn f caps)), (7, .one (.int .i64 (xs.length : Int))), (8, .one (.int .i64 (k : Int)))], L := [] }) ?_ ?_
 ·exact ⟨_, _, aw [0, 1, 7, 8], 0, Nat.zero_le _, fun i hi => by omega, rfl, rfl⟩
 rintro n4 s4 ⟨k, hk, hq, rfl, rfl⟩
 refine Z fun _ k5 => ?_
 refine a9 hP hN rfl ?_
 (refine V rfl fun _ k0 => ?_; simp only [zO, zT, acs, reduceCtorEq, J, D, M, U, O, S]; (repeat refine an ?_); (try refine .inl ?_); apply k0; clear k0; simp only [zP, D])
 refine aa ?_
 apply k5; clear k5; refine kp [0, 1, 7, 8, 9] ?_
 refine Z fun _ k6 => ?_
 refine cd (fun hc7 => ?_) (fun hc7 => ?_)
 ·(try simp only [zB, reduceCtorEq] at hc7)
  refine am ?_
  apply k6; clear k6; refine kp [0, 1, 7, 8, 9] ?_
  refine Z fun _ k8 => ?_
  refine az ?_
  refine Z fun _ k9 => ?_
  refine a9 hP hN rfl ?_
  iterate 2 (refine V rfl fun _ k0 => ?_; simp only [zO, zT, acs, reduceCtorEq, J, D, M, U, O, S]; (repeat refine an ?_); (try refine .inl ?_); apply k0; clear k0; simp only [zP, D])
  refine aa ?_
  apply k9; clear k9; refine kp [0, 1, 5, 7, 8, 9] ?_
  refine Z fun _ k10 => ?_
  obtain ⟨x1, x2, hgx⟩ : ∃ x1 x2, ∀ d, xs.getD k d = (x1, (x2, ())) := ⟨_, _, cq (by omega)⟩
  refine a9 hP hN rfl ?_
  iterate 5 (refine V rfl fun _ k0 => ?_; simp only [zO, zT, acs, reduceCtorEq, J, D, M, U, O, S, gt, ae, hgx]; (repeat refine an ?_); (try refine .inl ?_); apply k0; clear k0; simp only [zP, D])
  refine V rfl fun _ k0 => ?_
  refine ar (h := ah (hf k x1 x2 (by omega) (hgx _))) rfl rfl (by first | exact rfl | (simp only [ev, zP, J, D]; exact rfl)) (by simp only [zV, acs, reduceCtorEq, J, D, M, U, O, S, gt, ae, hgx]) ?_
  apply k0; clear k0; simp only [zP, D]
  refine aa ?_
  apply k10; clear k10; refine kp [0, 1, 5, 7, 8, 9, 16] ?_
  refine cd (fun hc11 => ?_) (fun hc11 => ?_)
  ·(try simp only [zB, reduceCtorEq] at hc11)
   have hp := hc11
   refine Z fun _ k12 => ?_
   refine a9 hP hN rfl ?_
   iterate 2 (refine V rfl fun _ k0 => ?_; simp only [zO, zT, acs, reduceCtorEq, J, D, M, U, O, S]; (repeat refine an ?_); (try refine .inl ?_); apply k0; clear k0; simp only [zP, D])
   refine aa ?_
   apply k12; clear k12; refine kp [0, 1, 4, 5, 7, 8, 9, 16] ?_
   refine ak ?_
   refine ⟨nr, _, rfl, ?_⟩; simp only [zF, zP, J, D]
   refine VLE.of_eq ?_
   refine congrArg (fun n => AV.one (AC.int IntKind.i64 n)) ?_
   symm
   first
   | exact nD (by omega) hq (by rw [hgx]; simpa using hp)
   | exact ky fun q hq2 => hq q (by omega)
  (try simp only [zB, reduceCtorEq] at hc11)
  have hp := hc11
  refine am ?_
  apply k8; clear k8; refine kp [0, 1, 5, 7, 8, 9, 16] ?_
  refine a9 hP hN rfl ?_
  iterate 2 (refine V rfl fun _ k0 => ?_; simp only [zO, zT, acs, reduceCtorEq, J, D, M, U, O, S]; (repeat refine an ?_); (try refine .inl ?_); apply k0; clear k0; simp only [zP, D])
  refine aa ?_
  refine ⟨_, _, ?_, aw [0, 1, 7, 8], k + 1, by omega, fun q hq2 => ?_, rfl, rfl⟩
  · omega
  · by_cases e : q = k
    · rw [e, hgx]; simpa using hp
    · exact hq q (by omega)
 (try simp only [zB, reduceCtorEq] at hc7)
 refine aV ?_
 apply k2; clear k2; refine kp [0, 1, 7, 8, 9] ?_
 refine Z fun _ k13 => ?_
 refine a9 hP hN rfl ?_
 (refine V rfl fun _ k0 => ?_; simp only [zO, zT, acs, reduceCtorEq, J, D, M, U, O, S]; (repeat refine an ?_); (try refine .inl ?_); apply k0; clear k0; simp only [zP, D])
 refine aa ?_
 apply k13; clear k13; refine kp [0, 1, 4, 7, 8, 9] ?_
 refine ak ?_
 refine ⟨nr, _, rfl, ?_⟩; simp only [zF, zP, J, D]
 refine VLE.of_eq ?_
 refine congrArg (fun n => AV.one (AC.int IntKind.i64 n)) ?_
 symm
 first
 | exact nD (by omega) hq (by rw [hgx]; simpa using hp)
 | exact ky fun q hq2 => hq q (by omega)
end Go.Proofs.YtfakhaagbimljaaDoor
