/- Contracts of functions of this seat, each out of a walk through its code, and plain facts on what they compute. Conditions: those that each theorem names. -/
import Derived.Test.YtoahhklogohehaaW01
set_option linter.unusedSimpArgs false
set_option linter.unusedVariables false
set_option maxRecDepth 100000
namespace Go.AV
open Nat renaming reduceEqDiff → aa, reduceAdd → V, reduceLeDiff → ad, reduceLT → ag, reduceMul → af, reduceSub → ae
open List renaming set_cons_zero → cG, set_cons_succ → cm, getD_cons_zero → au, length_append → aq, map_cons → aI, cons_append → aP, map_nil → bl, length_cons → aw, nil_append → bc, take_succ_cons → dA, length_nil → aH, length_map → aF, length_replicate → aD, take_length → aJ, mem_cons_self → aS, mem_cons_of_mem → aL
open Int renaming toNat_natCast → ah
/-plain-/
def knB (Q : List SS) (x : List Int) (j : Nat) : Bool := (List.range j).any fun q => decide ((Q.getD q ss0).1 = x)
theorem qR {Q : List SS} {x : List Int} (h : dK Q x < Q.length) : (Q.getD (dK Q x) ss0).1 = x := by
  induction Q with
  | nil => simp [dK] at h
  | cons s Q ih =>
    by_cases e : s.1 = x
    · have p1 : dK (s :: Q) x = 0 := if_pos e
      rw [p1]; exact e
    · have p1 : dK (s :: Q) x = dK Q x + 1 := if_neg e
      rw [p1] at h ⊢
      exact ih (by simpa using h)
theorem zz (Q : List SS) (x : List Int) : knB Q x Q.length = decide (dK Q x < Q.length) := by
  by_cases e : dK Q x < Q.length
  · rw [decide_eq_true e]
    exact List.any_eq_true.2 ⟨_, List.mem_range.2 e, by rw [decide_eq_true_eq]; exact qR e⟩
  · rw [decide_eq_false e]
    unfold knB
    rw [List.any_eq_false]
    intro q hq hb
    have hq2 := List.mem_range.1 hq
    rw [decide_eq_true_eq] at hb
    have : ¬ ∀ j, j < Q.length → (Q.getD j ss0).1 ≠ x := fun h => h q hq2 hb
    apply e
    have hle := uu Q x
    by_cases e3 : dK Q x = Q.length
    · exfalso
      have key : ∀ (Q : List SS) (q : Nat), q < Q.length → (Q.getD q ss0).1 = x → dK Q x ≤ q := by
        intro Q
        induction Q with
        | nil => intro q h; simp at h
        | cons s Q ih =>
          intro q h hb
          by_cases e : s.1 = x
          · have p1 : dK (s :: Q) x = 0 := if_pos e
            omega
          · have p1 : dK (s :: Q) x = dK Q x + 1 := if_neg e
            match q, h, hb with
            | 0, _, hb => exact absurd (by simpa using hb) e
            | q + 1, h, hb =>
              have := ih q (by simpa using h) (by simpa using hb)
              omega
      have := key Q q hq2 hb
      omega
    · omega
/-plain-/
def dr (m : Mly) : List Int → List Int → List Int
  | l, [] => l
  | l, a :: w => dr m (cr m l a) w
def chW (m : Mly) : List Int → List Int → Prop
  | _, [] => True
  | l, a :: w => (unS m l a l.length = false ∧ smO m l a l.length = true) ∧ chW m (cr m l a) w
def spW (m : Mly) (l w : List Int) : Prop := ∃ v a, w = v ++ [a] ∧ chW m l v ∧ unS m (dr m l v) a (dr m l v).length = false ∧ smO m (dr m l v) a (dr m l v).length = false
theorem gn {m : Mly} : ∀ {v w l : List Int}, dr m l (v ++ w) = dr m (dr m l v) w
  | [], _, _ => rfl
  | _ :: v, w, _ => gn (v := v) (w := w)
theorem hU {m : Mly} : ∀ {v w l : List Int}, chW m l (v ++ w) ↔ chW m l v ∧ chW m (dr m l v) w
  | [], _, _ => ⟨fun h => ⟨trivial, h⟩, fun h => h.2⟩
  | a :: v, w, l => by
    have ih := hU (m := m) (v := v) (w := w) (l := cr m l a)
    constructor
    · rintro ⟨h1, h2⟩; have h3 := ih.1 h2; exact ⟨⟨h1, h3.1⟩, h3.2⟩
    · rintro ⟨⟨h1, h2⟩, h3⟩; exact ⟨h1, ih.2 ⟨h2, h3⟩⟩
theorem qL (m : Mly) (l : List Int) (a : Int) : dr m l [a] = cr m l a := rfl
theorem t8 {m : Mly} {l w : List Int} (h : spW m l w) : w ≠ [] := by
  obtain ⟨v, a, rfl, _⟩ := h; simp
theorem n7 {m : Mly} {l w : List Int} {a : Int} : spW m l (a :: w) ↔ unS m l a l.length = false ∧ ((w = [] ∧ smO m l a l.length = false) ∨ (smO m l a l.length = true ∧ spW m (cr m l a) w)) := by
  constructor
  · rintro ⟨v, b, e, h1, h2, h3⟩
    cases v with
    | nil =>
      simp only [bc, List.cons.injEq] at e
      obtain ⟨rfl, rfl⟩ := e
      exact ⟨h2, .inl ⟨rfl, h3⟩⟩
    | cons c v =>
      simp only [aP, List.cons.injEq] at e
      obtain ⟨rfl, rfl⟩ := e
      exact ⟨h1.1.1, .inr ⟨h1.1.2, v, b, rfl, h1.2, h2, h3⟩⟩
  · rintro ⟨h1, ⟨rfl, h2⟩ | ⟨h2, v, b, rfl, h3, h4, h5⟩⟩
    · exact ⟨[], a, rfl, trivial, h1, h2⟩
    · exact ⟨a :: v, b, rfl, ⟨⟨h1, h2⟩, h3⟩, h4, h5⟩
theorem fX {Q : List SS} {s : SS} {i : Nat} (h : i < Q.length) : (Q ++ [s]).getD i ss0 = Q.getD i ss0 := by simp [List.getD, List.getElem?_append_left h]
theorem lg {Q : List SS} {s : SS} : (Q ++ [s]).getD Q.length ss0 = s := by simp [List.getD]
theorem jr {Q : List SS} {s : SS} : (Q ++ [s]).length = Q.length + 1 := by simp
structure BFQ (m : Mly) (l : List Int) (Q : List SS) : Prop where
  rt : 0 < Q.length ∧ Q.getD 0 ss0 = (l, [])
  pt : ∀ k, k < Q.length → chW m l (Q.getD k ss0).2 ∧ (Q.getD k ss0).1 = dr m l (Q.getD k ss0).2 ∧ dB m (Q.getD k ss0).2
  mo : ∀ j k, j ≤ k → k < Q.length → (Q.getD j ss0).2.length ≤ (Q.getD k ss0).2.length
  nd : ∀ j k, j < k → k < Q.length → (Q.getD j ss0).1 ≠ (Q.getD k ss0).1
  le : Q.length ≤ 4096
def clQ (m : Mly) (Q : List SS) (j : Nat) (b : Int) : Prop := unS m (Q.getD j ss0).1 b (Q.getD j ss0).1.length = false → smO m (Q.getD j ss0).1 b (Q.getD j ss0).1.length = true ∧ ∃ k, k < Q.length ∧ (Q.getD k ss0).1 = cr m (Q.getD j ss0).1 b ∧ (Q.getD k ss0).2.length ≤ (Q.getD j ss0).2.length + 1
structure BFI (m : Mly) (l : List Int) (i a : Nat) (Q : List SS) : Prop where
  q : BFQ m l Q
  cl : ∀ j, j < i → ∀ b : Nat, b < m.inp.toNat → clQ m Q j b
  pc : ∀ b : Nat, b < a → clQ m Q i b
  up : ∀ k, k < Q.length → i < Q.length → (Q.getD k ss0).2.length ≤ (Q.getD i ss0).2.length + 1
theorem ru {m : Mly} {Q : List SS} {s : SS} {j : Nat} {b : Int} (hj : j < Q.length) (h : clQ m Q j b) : clQ m (Q ++ [s]) j b := by
  unfold clQ at h ⊢
  rw [fX hj]
  intro h1
  obtain ⟨h2, k, h3, h4, h5⟩ := h h1
  exact ⟨h2, k, by rw [jr]; omega, by rw [fX h3]; exact h4, by rw [fX h3]; exact h5⟩
theorem ss {m : Mly} {l : List Int} {Q : List SS} (hq : BFQ m l Q) {D : Nat} (hc : ∀ j, j < Q.length → (Q.getD j ss0).2.length < D → ∀ b : Nat, b < m.inp.toNat → clQ m Q j b) :
    ∀ (n : Nat) (v : List Int), v.length = n → n ≤ D → dB m v → chW m l v → ∃ j, j < Q.length ∧ (Q.getD j ss0).1 = dr m l v ∧ (Q.getD j ss0).2.length ≤ n
  | 0, v, hv, _, _, _ => by
    have : v = [] := List.eq_nil_of_length_eq_zero hv
    subst this
    refine ⟨0, hq.rt.1, ?_, ?_⟩
    · rw [hq.rt.2]; rfl
    · rw [hq.rt.2]; exact Nat.le_refl _
  | n + 1, v, hv, hn, hw, hch => by
    have hne : v ≠ [] := fun e => by rw [e] at hv; cases hv
    obtain ⟨u, b, rfl⟩ : ∃ u b, v = u ++ [b] := ⟨v.dropLast, v.getLast hne, (List.dropLast_concat_getLast hne).symm⟩
    rw [aq] at hv
    simp only [aw, aH] at hv
    obtain ⟨h1, h2⟩ := hU.1 hch
    have hb := hw b (by simp)
    obtain ⟨j, j1, j2, j3⟩ := ss hq hc n u (by omega) (by omega) (fun x hx => hw x (List.mem_append_left _ hx)) h1
    have hcl := hc j j1 (by omega) b.toNat (by omega)
    rw [show ((b.toNat : Nat) : Int) = b by omega] at hcl
    unfold clQ at hcl
    rw [j2] at hcl
    obtain ⟨_, k, k1, k2, k3⟩ := hcl h2.1.1
    refine ⟨k, k1, ?_, by omega⟩
    rw [k2, gn, qL]
theorem BFI.clz {m : Mly} {l : List Int} {i a : Nat} {Q : List SS} (h : BFI m l i a Q) (hi : i < Q.length) : ∀ j, j < Q.length → (Q.getD j ss0).2.length < (Q.getD i ss0).2.length → ∀ b : Nat, b < m.inp.toNat → clQ m Q j b := by
  intro j hj hl b hb
  refine h.cl j ?_ b hb
  by_cases e : j < i
  · exact e
  · have := h.q.mo i j (by omega) hj; omega
def BFT (m : Mly) (l : List Int) (i a : Nat) (t : F12) : Prop := match t.res with
  | none => BFI m l i a t.Q ∧ i < t.Q.length
  | some (some w) => spW m l w ∧ ∀ v, dB m v → spW m l v → w.length ≤ v.length
  | some none => BFQ m l t.Q ∧ 4096 ≤ t.Q.length
theorem AG {m : Mly} {l : List Int} {i a : Nat} {Q : List SS} (h : BFI m l i a Q) (hi : i < Q.length) (h1 : unS m (Q.getD i ss0).1 a (Q.getD i ss0).1.length = false) (h2 : smO m (Q.getD i ss0).1 a (Q.getD i ss0).1.length = false) :
    spW m l (dU Q i a) ∧ ∀ v, dB m v → spW m l v → (dU Q i a).length ≤ v.length := by
  obtain ⟨p1, p2, p3⟩ := h.q.pt i hi
  constructor
  · exact ⟨_, _, rfl, p1, by rw [← p2]; exact h1, by rw [← p2]; exact h2⟩
  · rintro v hv ⟨u, b, rfl, s1, s2, s3⟩
    unfold dU
    rw [aq, aq]
    simp only [aw, aH]
    by_cases e : (Q.getD i ss0).2.length ≤ u.length
    · omega
    · exfalso
      have hb := hv b (by simp)
      obtain ⟨j, j1, j2, j3⟩ := ss h.q (h.clz hi) u.length u rfl (by omega) (fun x hx => hv x (List.mem_append_left _ hx)) s1
      have hcl := h.clz hi j j1 (by omega) b.toNat (by omega)
      rw [show ((b.toNat : Nat) : Int) = b by omega] at hcl
      unfold clQ at hcl
      rw [j2] at hcl
      have := (hcl s2).1
      rw [s3] at this; cases this
theorem z3 {Q : List SS} {x : List Int} (h : ¬ dK Q x < Q.length) : ∀ k, k < Q.length → (Q.getD k ss0).1 ≠ x := by
  intro k hk e
  have h1 := zz Q x
  rw [decide_eq_false h] at h1
  have : knB Q x Q.length = true := List.any_eq_true.2 ⟨k, List.mem_range.2 hk, by rw [decide_eq_true_eq]; exact e⟩
  rw [h1] at this; cases this
theorem Be {m : Mly} {l : List Int} {i a : Nat} {t : F12} (h : BFT m l i a t) (ha : a < m.inp.toNat) : BFT m l i (a + 1) (d9 m i t a) := by
  obtain ⟨Q, res⟩ := t
  cases res with
  | some r =>
    have e : d9 m i ⟨Q, some r⟩ a = ⟨Q, some r⟩ := rfl
    rw [e]
    cases r with
    | some w => exact h
    | none => exact h
  | none =>
    obtain ⟨hI, hi⟩ : BFI m l i a Q ∧ i < Q.length := h
    cases hu : unS m (Q.getD i ss0).1 a (Q.getD i ss0).1.length with
    | true =>
      rw [zM hu]
      refine ⟨⟨hI.q, hI.cl, fun b hb => ?_, hI.up⟩, hi⟩
      by_cases e : b = a
      · subst e; intro h1; rw [hu] at h1; cases h1
      · exact hI.pc b (by omega)
    | false =>
      cases hs : smO m (Q.getD i ss0).1 a (Q.getD i ss0).1.length with
      | false => rw [wa hu hs]; exact AG hI hi hu hs
      | true =>
        by_cases h3 : dK Q (fe m Q i a) < Q.length
        · rw [we hu hs h3]
          refine ⟨⟨hI.q, hI.cl, fun b hb => ?_, hI.up⟩, hi⟩
          by_cases e : b = a
          · subst e
            intro _
            exact ⟨hs, _, h3, qR h3, hI.up _ h3 hi⟩
          · exact hI.pc b (by omega)
        · by_cases h4 : 4096 ≤ Q.length
          · rw [wd hu hs h3 h4]; exact ⟨hI.q, h4⟩
          · rw [wV hu hs h3 h4]
            obtain ⟨p1, p2, p3⟩ := hI.q.pt i hi
            have hwl : (dU Q i a).length = (Q.getD i ss0).2.length + 1 := by unfold dU; simp
            refine ⟨⟨⟨⟨by rw [jr]; omega, by rw [fX hI.q.rt.1]; exact hI.q.rt.2⟩, fun k hk => ?_, fun j k hjk hk => ?_, fun j k hjk hk => ?_, by rw [jr]; omega⟩, fun j hj b hb => ru (by omega) (hI.cl j hj b hb), fun b hb => ?_, fun k hk _ => ?_⟩, by rw [jr]; omega⟩
            · rw [jr] at hk
              by_cases e : k < Q.length
              · rw [fX e]; exact hI.q.pt k e
              · have : k = Q.length := by omega
                subst this
                rw [lg]
                refine ⟨hU.2 ⟨p1, ?_⟩, ?_, ?_⟩
                · rw [← p2]; exact ⟨⟨hu, hs⟩, trivial⟩
                · show fe m Q i a = dr m l (dU Q i a)
                  unfold fe dU
                  rw [gn, qL, ← p2]
                · intro x hx
                  rcases List.mem_append.1 hx with h | h
                  · exact p3 x h
                  · rw [List.mem_singleton] at h; rw [h]; omega
            · rw [jr] at hk
              by_cases e : k < Q.length
              · rw [fX e, fX (by omega)]; exact hI.q.mo j k hjk e
              · have : k = Q.length := by omega
                subst this
                rw [lg]
                by_cases e2 : j < Q.length
                · rw [fX e2]
                  show _ ≤ (dU Q i a).length
                  rw [hwl]; exact hI.up j e2 hi
                · rw [show j = Q.length by omega, lg]; exact Nat.le_refl _
            · rw [jr] at hk
              by_cases e : k < Q.length
              · rw [fX e, fX (by omega)]; exact hI.q.nd j k hjk e
              · have : k = Q.length := by omega
                subst this
                rw [lg, fX hjk]
                exact z3 h3 j hjk
            · by_cases e : b = a
              · subst e
                unfold clQ
                rw [fX hi]
                intro _
                refine ⟨hs, Q.length, by rw [jr]; omega, by rw [lg]; rfl, ?_⟩
                rw [lg]
                show (dU Q i b).length ≤ _
                omega
              · exact ru hi (hI.pc b (by omega))
            · rw [jr] at hk
              rw [fX hi]
              by_cases e : k < Q.length
              · rw [fX e]; exact hI.up k e hi
              · rw [show k = Q.length by omega, lg]
                show (dU Q i a).length ≤ _
                omega
theorem tH {m : Mly} {l : List Int} {i : Nat} {t : F12} (h : BFT m l i 0 t) : ∀ k, k ≤ m.inp.toNat → BFT m l i k ((List.range k).foldl (d9 m i) t)
  | 0, _ => h
  | k + 1, hk => by
    rw [List.range_succ, List.foldl_append]
    exact Be (tH h k (by omega)) (by omega)
def BFE (m : Mly) (l : List Int) (r : Option (Option (List Int))) : Prop := match r with
  | none => ∀ v, dB m v → ¬ spW m l v
  | some (some w) => spW m l w ∧ ∀ v, dB m v → spW m l v → w.length ≤ v.length
  | some none => ∃ Q, BFQ m l Q ∧ 4096 ≤ Q.length
theorem wv {m : Mly} {l : List Int} {i a : Nat} {Q : List SS} (h : BFI m l i a Q) (hi : ¬ i < Q.length) : ∀ v, dB m v → ¬ spW m l v := by
  rintro v hv ⟨u, b, rfl, s1, s2, s3⟩
  have hb := hv b (by simp)
  have hc : ∀ j, j < Q.length → (Q.getD j ss0).2.length < u.length + 1 → ∀ b : Nat, b < m.inp.toNat → clQ m Q j b := fun j hj _ b hb => h.cl j (by omega) b hb
  obtain ⟨j, j1, j2, j3⟩ := ss h.q hc u.length u rfl (by omega) (fun x hx => hv x (List.mem_append_left _ hx)) s1
  have hcl := hc j j1 (by omega) b.toNat (by omega)
  rw [show ((b.toNat : Nat) : Int) = b by omega] at hcl
  unfold clQ at hcl
  rw [j2] at hcl
  have := (hcl s2).1
  rw [s3] at this; cases this
theorem zb {m : Mly} {l : List Int} {i : Nat} {Q : List SS} (h : BFI m l i m.inp.toNat Q) (hi : i < Q.length) : BFI m l (i + 1) 0 Q := by
  refine ⟨h.q, fun j hj b hb => ?_, fun b hb => by omega, fun k hk hi2 => ?_⟩
  · by_cases e : j = i
    · rw [e]; exact h.pc b hb
    · exact h.cl j (by omega) b hb
  · have h1 := h.up k hk hi
    have h2 := h.q.mo i (i + 1) (by omega) hi2
    omega
theorem yr {m : Mly} {l : List Int} : ∀ (f i : Nat) (Q : List SS), 4097 ≤ f + i → BFI m l i 0 Q → BFE m l (fV m f i ⟨Q, none⟩).res
  | 0, i, Q, hf, h => by
    have := h.q.le
    exact wv h (by omega)
  | f + 1, i, Q, hf, h => by
    by_cases hi : i < Q.length
    · rw [p6 rfl hi]
      have h1 := tH (t := ⟨Q, none⟩) (i := i) ⟨h, hi⟩ m.inp.toNat (Nat.le_refl _)
      have e : (List.range m.inp.toNat).foldl (d9 m i) ⟨Q, none⟩ = j4 m i ⟨Q, none⟩ := rfl
      rw [e] at h1
      rcases hr : j4 m i ⟨Q, none⟩ with ⟨Q2, r⟩
      rw [hr] at h1
      cases r with
      | none =>
        obtain ⟨h2, h3⟩ : BFI m l i m.inp.toNat Q2 ∧ i < Q2.length := h1
        exact yr f (i + 1) Q2 (by omega) (zb h2 h3)
      | some r =>
        rw [qE (t := ⟨Q2, some r⟩) rfl]
        cases r with
        | some w => exact h1
        | none => exact ⟨Q2, h1⟩
    · rw [uv hi]; exact wv h hi
theorem yD (m : Mly) (l : List Int) : BFE m l (ma m l) := by
  refine yr 4097 0 [(l, [])] (by omega) ⟨⟨⟨by simp, rfl⟩, fun k hk => ?_, fun j k hjk hk => ?_, fun j k hjk hk => ?_, by simp⟩, fun j hj => by omega, fun b hb => by omega, fun k hk hi => ?_⟩
  · have : k = 0 := by simpa using hk
    subst this; exact ⟨trivial, rfl, fun x hx => by cases hx⟩
  · have : k = 0 := by simpa using hk
    have : j = 0 := by omega
    subst_vars; exact Nat.le_refl _
  · have : k = 0 := by simpa using hk
    omega
  · have : k = 0 := by simpa using hk
    subst this; omega
theorem A9 {m : Mly} {l w : List Int} (h : fdW m l = some w) : spW m l w ∧ ∀ v, dB m v → spW m l v → w.length ≤ v.length := by
  have hs := yD m l
  unfold fdW at h
  rcases hr : ma m l with _ | _ | w2
  · rw [hr] at h; cases h
  · rw [hr] at h; cases h
  · rw [hr] at h hs
    have : w2 = w := by simpa using h
    subst this; exact hs
/-plain-/
def nK (l k : List Int) : Prop := ∀ x, x ∈ l ↔ x ∈ k
theorem pP {m : Mly} {l : List Int} {a : Int} (hn : l.Nodup) : unS m l a l.length = true ↔ ∃ s t, s ∈ l ∧ t ∈ l ∧ s ≠ t ∧ clB m a s t = true := by
  unfold unS
  constructor
  · intro h
    obtain ⟨k, hk, h2⟩ := List.any_eq_true.1 h
    obtain ⟨j, hj, h3⟩ := List.any_eq_true.1 h2
    have hk := List.mem_range.1 hk
    have hj := List.mem_range.1 hj
    refine ⟨_, _, bn hk, bn (show j < l.length by omega), fun e => ?_, h3⟩
    have := ik hn hk (by omega) e
    omega
  · rintro ⟨s, t, hs, ht, hne, hc⟩
    obtain ⟨i, hi, rfl⟩ := fR hs
    obtain ⟨j, hj, rfl⟩ := fR ht
    rcases Nat.lt_trichotomy i j with h | h | h
    · refine List.any_eq_true.2 ⟨j, List.mem_range.2 hj, List.any_eq_true.2 ⟨i, List.mem_range.2 h, ?_⟩⟩
      unfold clB at hc ⊢
      simp only [Bool.and_eq_true, decide_eq_true_eq] at hc ⊢
      exact ⟨hc.1.symm, hc.2.symm⟩
    · subst h; exact absurd rfl hne
    · exact List.any_eq_true.2 ⟨i, List.mem_range.2 hi, List.any_eq_true.2 ⟨j, List.mem_range.2 h, hc⟩⟩
theorem uN {m : Mly} {l : List Int} {a : Int} (hn : l.Nodup) (h : unS m l a l.length = false) {s t : Int} (hs : s ∈ l) (ht : t ∈ l) (h1 : m.out s a = m.out t a) (h2 : m.nxt s a = m.nxt t a) : s = t := by
  by_cases e : s = t
  · exact e
  · have := (pP (m := m) (a := a) hn).2 ⟨s, t, hs, ht, e, by unfold clB; rw [decide_eq_true h1, decide_eq_true h2]; rfl⟩
    rw [h] at this; cases this
theorem iL {m : Mly} {l : List Int} {a : Int} : smO m l a l.length = true ↔ ∀ s t, s ∈ l → t ∈ l → m.out s a = m.out t a := by
  unfold smO
  rw [List.all_eq_true]
  constructor
  · intro h s t hs ht
    obtain ⟨i, hi, rfl⟩ := fR hs
    obtain ⟨j, hj, rfl⟩ := fR ht
    have h1 := h i (List.mem_range.2 hi)
    have h2 := h j (List.mem_range.2 hj)
    simp only [decide_eq_true_eq] at h1 h2
    rw [h1, h2]
  · intro h k hk
    have hk := List.mem_range.1 hk
    rw [decide_eq_true_eq]
    exact h _ _ (bn hk) (bn (by omega))
theorem wQ {m : Mly} {l k : List Int} {a : Int} (h : nK l k) (hl : l.Nodup) (hk : k.Nodup) : unS m l a l.length = unS m k a k.length := by
  rw [Bool.eq_iff_iff, pP hl, pP hk]
  constructor
  · rintro ⟨s, t, h1, h2, h3⟩; exact ⟨s, t, (h s).1 h1, (h t).1 h2, h3⟩
  · rintro ⟨s, t, h1, h2, h3⟩; exact ⟨s, t, (h s).2 h1, (h t).2 h2, h3⟩
theorem wh {m : Mly} {l k : List Int} {a : Int} (h : nK l k) : smO m l a l.length = smO m k a k.length := by
  rw [Bool.eq_iff_iff, iL, iL]
  constructor
  · intro g s t h1 h2; exact g s t ((h s).2 h1) ((h t).2 h2)
  · intro g s t h1 h2; exact g s t ((h s).1 h1) ((h t).1 h2)
theorem B3 {m : Mly} {l k : List Int} {a : Int} (h : nK l k) : nK (cr m l a) (cr m k a) := by
  intro x
  unfold cr
  rw [List.mem_map, List.mem_map]
  constructor
  · rintro ⟨y, h1, h2⟩; exact ⟨y, (h y).1 h1, h2⟩
  · rintro ⟨y, h1, h2⟩; exact ⟨y, (h y).2 h1, h2⟩
theorem mB {m : Mly} {l : List Int} {a : Int} (hn : l.Nodup) (h : unS m l a l.length = false) (h2 : smO m l a l.length = true) : (cr m l a).Nodup := by
  unfold cr
  refine List.pairwise_map.2 (List.Pairwise.imp_of_mem (fun {s t} hs ht hne e => hne ?_) hn)
  exact uN hn h hs ht (iL.1 h2 s t hs ht) e
theorem gu {m : Mly} : ∀ {v l : List Int}, l.Nodup → chW m l v → (dr m l v).Nodup
  | [], _, h, _ => h
  | a :: v, l, h, hc => gu (v := v) (mB h hc.1.1 hc.1.2) hc.2
theorem oa {m : Mly} (hm : MOK m) : ∀ {v l : List Int}, dB m v → cJ m l → cJ m (dr m l v)
  | [], _, _, h => h
  | a :: v, l, hw, h => oa hm (v := v) (fun x hx => hw x (aL _ hx)) (sh hm (hw a (aS ..)) h).1
theorem vA {m : Mly} : ∀ {w l k : List Int}, nK l k → l.Nodup → k.Nodup → spW m l w → spW m k w
  | [], _, _, _, _, _, h => absurd rfl (t8 h)
  | a :: w, l, k, h, hl, hk, hs => by
    rw [n7] at hs ⊢
    rw [← wQ h hl hk, ← wh h]
    obtain ⟨h1, h2 | ⟨h2, h3⟩⟩ := hs
    · exact ⟨h1, .inl h2⟩
    · exact ⟨h1, .inr ⟨h2, vA (B3 h) (mB hl h1 h2) (mB hk (by rw [← wQ h hl hk]; exact h1) (by rw [← wh h]; exact h2)) h3⟩⟩
theorem pf {m : Mly} : ∀ {v w l : List Int}, chW m l v → spW m (dr m l v) w → spW m l (v ++ w)
  | [], _, _, _, h => h
  | a :: v, w, l, hc, h => by
    rw [aP, n7]
    exact ⟨hc.1.1, .inr ⟨hc.1.2, pf hc.2 h⟩⟩
def cdN (l : List Int) : Nat → Nat
  | 0 => 0
  | k + 1 => 2 * cdN l k + (if (k : Int) ∈ l then 1 else 0)
theorem sw (l : List Int) : ∀ k, cdN l k < 2 ^ k
  | 0 => by show 0 < 2 ^ 0; decide
  | k + 1 => by
    have := sw l k
    rw [cdN, Nat.pow_succ]
    split <;> omega
theorem oS {l k : List Int} : ∀ n, cdN l n = cdN k n → ∀ i : Nat, i < n → ((i : Int) ∈ l ↔ (i : Int) ∈ k)
  | 0, _, i, h => by omega
  | n + 1, h, i, hi => by
    rw [cdN, cdN] at h
    have h1 : cdN l n = cdN k n := by split at h <;> split at h <;> omega
    by_cases e : i = n
    · subst e
      rw [h1] at h
      by_cases a1 : (i : Int) ∈ l
      · by_cases a2 : (i : Int) ∈ k
        · exact ⟨fun _ => a2, fun _ => a1⟩
        · rw [if_pos a1, if_neg a2] at h; omega
      · by_cases a2 : (i : Int) ∈ k
        · rw [if_neg a1, if_pos a2] at h; omega
        · exact ⟨fun h => absurd h a1, fun h => absurd h a2⟩
    · exact oS n h1 i (by omega)
theorem wT {n : Nat} {l k : List Int} (hl : ∀ x ∈ l, 0 ≤ x ∧ x < n) (hk : ∀ x ∈ k, 0 ≤ x ∧ x < n) (h : cdN l n = cdN k n) : nK l k := by
  intro x
  constructor
  · intro hx
    have := hl x hx
    have h2 := (oS n h x.toNat (by omega)).1
    rw [show ((x.toNat : Nat) : Int) = x by omega] at h2
    exact h2 hx
  · intro hx
    have := hk x hx
    have h2 := (oS n h x.toNat (by omega)).2
    rw [show ((x.toNat : Nat) : Int) = x by omega] at h2
    exact h2 hx
theorem x7 {m : Mly} (hm : MOK m) (hn8 : m.nx.length ≤ 8) {l w : List Int} (hn : l.Nodup) (hst : cJ m l) (hw : dB m w) (h : spW m l w) (hmin : ∀ v, dB m v → spW m l v → w.length ≤ v.length) : w.length ≤ 256 := by
  obtain ⟨v, a, rfl, h1, h2, h3⟩ := h
  have hwv : dB m v := fun x hx => hw x (List.mem_append_left _ hx)
  have hsp : ∀ p, spW m (dr m l (v.take p)) (v.drop p ++ [a]) := fun p => by
    have h1' := h1
    rw [← List.take_append_drop p v] at h1'
    have hc := (hU.1 h1').2
    refine ⟨_, _, rfl, hc, ?_, ?_⟩
    · rw [← gn, List.take_append_drop]; exact h2
    · rw [← gn, List.take_append_drop]; exact h3
  have hch : ∀ p, chW m l (v.take p) := fun p => by
    have h1' := h1
    rw [← List.take_append_drop p v] at h1'
    exact (hU.1 h1').1
  have hnd : ((List.range (v.length + 1)).map fun p => (cdN (dr m l (v.take p)) 8 : Int)).Nodup := by
    refine List.pairwise_map.2 (List.Pairwise.imp_of_mem (fun {p q} hp hq hlt e => ?_) (List.pairwise_lt_range (n := v.length + 1)))
    have hp := List.mem_range.1 hp
    have hq := List.mem_range.1 hq
    have st : ∀ p, cJ m (dr m l (v.take p)) := fun p => oa hm (fun x hx => hwv x (List.mem_of_mem_take hx)) hst
    have hse : nK (dr m l (v.take q)) (dr m l (v.take p)) := wT (n := 8) (fun x hx => by have := st q x hx; omega) (fun x hx => by have := st p x hx; omega) (by omega)
    have hs := vA hse (gu hn (hch q)) (gu hn (hch p)) (hsp q)
    have hs2 := pf (hch p) hs
    have := hmin _ (fun x hx => by
      rcases List.mem_append.1 hx with hx | hx
      · exact hwv x (List.mem_of_mem_take hx)
      · rcases List.mem_append.1 hx with hx | hx
        · exact hwv x (List.mem_of_mem_drop hx)
        · exact hw x (by simp at hx; simp [hx])) hs2
    simp only [aq, List.length_take, List.length_drop, aw, aH] at this
    omega
  have := eR 256 _ hnd (fun x hx => by
    obtain ⟨p, _, rfl⟩ := List.mem_map.1 hx
    have := sw (dr m l (v.take p)) 8
    omega)
  rw [aF, List.length_range] at this
  rw [aq]
  simp only [aw, aH]
  omega
/-plain-/
def rS : Nat → Nat → Nat
  | 0, _ => 0
  | k + 1, c => rS k (c / 2) + c % 2
theorem zk (l : List Int) : ∀ k, rS k (cdN l k) = ((rgI k).filter fun x => decide (x ∈ l)).length
  | 0 => rfl
  | k + 1 => by
    have e : rgI (k + 1) = rgI k ++ [(k : Int)] := by unfold rgI; rw [List.range_succ, List.map_append]; rfl
    rw [e, List.filter_append, aq, ← zk l k]
    show rS k (cdN l (k + 1) / 2) + cdN l (k + 1) % 2 = _
    rw [cdN]
    by_cases h : (k : Int) ∈ l
    · rw [if_pos h, List.filter_cons_of_pos (by simpa using h), show (2 * cdN l k + 1) / 2 = cdN l k by omega, show (2 * cdN l k + 1) % 2 = 1 by omega]; rfl
    · rw [if_neg h, List.filter_cons_of_neg (by simpa using h), show (2 * cdN l k + 0) / 2 = cdN l k by omega, show (2 * cdN l k + 0) % 2 = 0 by omega]; rfl
theorem Aj {l : List Int} {k : Nat} (hn : l.Nodup) (hl : ∀ x ∈ l, 0 ≤ x ∧ x < k) : rS k (cdN l k) = l.length := by
  rw [zk]
  refine Nat.le_antisymm (dY _ _ (List.Pairwise.filter _ (ow k)) fun x hx => ?_) (dY _ _ hn fun x hx => ?_)
  · exact of_decide_eq_true (List.mem_filter.1 hx).2
  · have := hl x hx
    refine List.mem_filter.2 ⟨?_, decide_eq_true hx⟩
    exact List.mem_map.2 ⟨x.toNat, List.mem_range.2 (by omega), by omega⟩
def AS (k : Nat) : Nat := ((List.range 256).filter fun c => decide (rS 8 c = k)).length
def kV : Nat → Nat
  | 0 => 0
  | k + 1 => kV k + AS (k + 1)
theorem tE {j k : Nat} (h : j ≤ k) : kV j ≤ kV k := by
  induction h with
  | refl => exact Nat.le_refl _
  | step h ih => rw [kV]; omega
theorem BO : kV 8 = 255 := by decide +kernel
theorem yg {m : Mly} (hm : MOK m) (hn8 : m.nx.length ≤ 8) {l w : List Int} (hn : l.Nodup) (hst : cJ m l) (hw : dB m w) (h : spW m l w) (hmin : ∀ v, dB m v → spW m l v → w.length ≤ v.length) : w.length ≤ AS l.length := by
  obtain ⟨v, a, rfl, h1, h2, h3⟩ := h
  have hwv : dB m v := fun x hx => hw x (List.mem_append_left _ hx)
  have hsp : ∀ p, spW m (dr m l (v.take p)) (v.drop p ++ [a]) := fun p => by
    have h1' := h1
    rw [← List.take_append_drop p v] at h1'
    have hc := (hU.1 h1').2
    refine ⟨_, _, rfl, hc, ?_, ?_⟩
    · rw [← gn, List.take_append_drop]; exact h2
    · rw [← gn, List.take_append_drop]; exact h3
  have hch : ∀ p, chW m l (v.take p) := fun p => by
    have h1' := h1
    rw [← List.take_append_drop p v] at h1'
    exact (hU.1 h1').1
  have hnd : ((List.range (v.length + 1)).map fun p => (cdN (dr m l (v.take p)) 8 : Int)).Nodup := by
    refine List.pairwise_map.2 (List.Pairwise.imp_of_mem (fun {p q} hp hq hlt e => ?_) (List.pairwise_lt_range (n := v.length + 1)))
    have hp := List.mem_range.1 hp
    have hq := List.mem_range.1 hq
    have st : ∀ p, cJ m (dr m l (v.take p)) := fun p => oa hm (fun x hx => hwv x (List.mem_of_mem_take hx)) hst
    have hse : nK (dr m l (v.take q)) (dr m l (v.take p)) := wT (n := 8) (fun x hx => by have := st q x hx; omega) (fun x hx => by have := st p x hx; omega) (by omega)
    have hs := vA hse (gu hn (hch q)) (gu hn (hch p)) (hsp q)
    have hs2 := pf (hch p) hs
    have := hmin _ (fun x hx => by
      rcases List.mem_append.1 hx with hx | hx
      · exact hwv x (List.mem_of_mem_take hx)
      · rcases List.mem_append.1 hx with hx | hx
        · exact hwv x (List.mem_of_mem_drop hx)
        · exact hw x (by simp at hx; simp [hx])) hs2
    simp only [aq, List.length_take, List.length_drop, aw, aH] at this
    omega
  have hl9 : ∀ (v l : List Int), (dr m l v).length = l.length := by
    intro v
    induction v with
    | nil => intro l; rfl
    | cons x v ih => intro l; show (dr m (cr m l x) v).length = _; rw [ih]; exact aF ..
  have := dY _ (((List.range 256).filter fun c => decide (rS 8 c = l.length)).map fun (c : Nat) => (c : Int)) hnd (fun x hx => by
    obtain ⟨p, _, rfl⟩ := List.mem_map.1 hx
    have h1 := sw (dr m l (v.take p)) 8
    refine List.mem_map.2 ⟨_, List.mem_filter.2 ⟨List.mem_range.2 (by omega), decide_eq_true ?_⟩, rfl⟩
    have st := oa hm (fun x hx => hwv x (List.mem_of_mem_take hx)) hst (v := v.take p)
    rw [Aj (gu hn (hch p)) (fun x hx => by have := st x hx; omega), hl9])
  rw [aF, List.length_range, aF] at this
  rw [aq]
  simp only [aw, aH]
  exact this
def jt (w : List Int) : Nat := if w = [] then 257 else 514
theorem f0 : jt [] = 257 := rfl
theorem fC (a : Int) (w : List Int) : jt (a :: w) = 514 := if_neg (by simp)
theorem x4 {m : Mly} {cur : List Int} {a o : Int} (h : ∀ s ∈ cur, m.out s a = o) : ptL m cur a o cur.length = (List.range cur.length).map (fun (q : Nat) => (q : Int)) := by
  unfold ptL
  rw [List.filter_eq_self.2]
  intro q hq
  have := List.mem_range.1 hq
  exact decide_eq_true (h _ (bn (by omega)))
theorem uW (l : List Int) : pkL l ((List.range l.length).map (fun (q : Nat) => (q : Int))) = l := by
  unfold pkL
  rw [List.map_map]
  apply List.ext_getElem (by simp)
  intro i h1 h2
  simp [List.getD, h2]
theorem uR {m : Mly} {ini cur : List Int} {a o : Int} (hil : ini.length = cur.length) (h : ∀ s ∈ cur, m.out s a = o) : bV m ini cur a cur.length o = ini ∧ bB m cur a cur.length o = cr m cur a := by
  unfold bV bB
  rw [x4 h]
  refine ⟨?_, ?_⟩
  · rw [← hil]; exact uW ini
  · rw [uW]
theorem xR {xs : List Int} {o : Int} (h0 : 0 < xs.length) (h : ∀ x ∈ xs, x = o) : aE xs = [o] := by
  obtain ⟨h1, h2⟩ := dp xs
  have hm : ∀ x ∈ aE xs, x = o := fun x hx => h x ((h2 x).1 hx)
  have ho : o ∈ aE xs := by
    have h9 : xs.getD 0 0 ∈ xs := bn h0
    rw [h2, ← h _ h9]; exact h9
  match hu : aE xs with
  | [] => rw [hu] at ho; cases ho
  | [x] => rw [hm x (by rw [hu]; simp)]
  | x :: y :: r =>
    have e1 := hm x (by rw [hu]; simp)
    have e2 := hm y (by rw [hu]; simp)
    rw [hu] at h1
    have := (List.pairwise_cons.1 h1).1 y (by simp)
    omega
theorem oD {m : Mly} {cur : List Int} {a : Int} (h : smO m cur a cur.length = false) : 2 ≤ (aE (ouL m cur a)).length := by
  refine Classical.byContradiction fun hn => ?_
  have h9 : smO m cur a cur.length = true := iL.2 fun s t hs ht => by
    have h2 := (dp (ouL m cur a)).2
    have ms : m.out s a ∈ aE (ouL m cur a) := (h2 _).2 (List.mem_map.2 ⟨s, hs, rfl⟩)
    have mt : m.out t a ∈ aE (ouL m cur a) := (h2 _).2 (List.mem_map.2 ⟨t, ht, rfl⟩)
    match hu : aE (ouL m cur a) with
    | [] => rw [hu] at ms; cases ms
    | [x] =>
      rw [hu, List.mem_singleton] at ms mt
      rw [ms, mt]
    | x :: y :: r => rw [hu] at hn; simp only [aw] at hn; omega
  rw [h] at h9; cases h9
theorem xn {m : Mly} {cur : List Int} {a o : Int} (hn : cur.Nodup) (h : unS m cur a cur.length = false) : (bB m cur a cur.length o).Nodup := by
  unfold bB cr pkL ptL
  rw [List.map_map, List.map_map]
  refine List.pairwise_map.2 ?_
  have h0 : ((List.range cur.length).filter (fun (q : Nat) => decide (m.out (cur.getD q 0) a = o))).Nodup := List.Pairwise.filter _ List.nodup_range
  refine List.Pairwise.imp_of_mem (fun {p q} hp hq hne e => hne ?_) h0
  obtain ⟨p1, p2⟩ := List.mem_filter.1 hp
  obtain ⟨q1, q2⟩ := List.mem_filter.1 hq
  have p1 := List.mem_range.1 p1
  have q1 := List.mem_range.1 q1
  have p2 := of_decide_eq_true p2
  have q2 := of_decide_eq_true q2
  simp only [Function.comp, ah] at e
  exact ik hn p1 q1 (uN hn h (bn p1) (bn q1) (by rw [p2, q2]) e)
theorem uj {m : Mly} {cur : List Int} {a o : Int} : ∀ i, i ≤ cur.length → (ptL m cur a o i).length = (ouL m (cur.take i) a).count o
  | 0, _ => rfl
  | i + 1, h => by
    have ih := uj (m := m) (cur := cur) (a := a) (o := o) i (by omega)
    rw [gT (by omega), List.count_append, ← ih]
    by_cases e : m.out (cur.getD i 0) a = o
    · rw [lK e, aq, e]; simp
    · rw [oo e, List.count_cons_of_ne e]; simp
theorem wc {m : Mly} {cur : List Int} {a o : Int} : (bB m cur a cur.length o).length = (ouL m cur a).count o := by
  have h := uj (m := m) (cur := cur) (a := a) (o := o) cur.length (Nat.le_refl _)
  rw [aJ] at h
  unfold bB cr pkL
  rw [aF, aF, h]
def fk (ys ks : List Int) : Nat := (ks.map fun o => ys.count o).sum
theorem rD (ys k1 k2 : List Int) : fk ys (k1 ++ k2) = fk ys k1 + fk ys k2 := by unfold fk; rw [List.map_append, List.sum_append]
theorem xu (ks : List Int) : fk [] ks = 0 := by
  induction ks with
  | nil => rfl
  | cons k ks ih => unfold fk at ih ⊢; rw [aI, List.sum_cons, ih]; rfl
theorem rQ {y : Int} {ys : List Int} : ∀ {ks : List Int}, y ∉ ks → fk (y :: ys) ks = fk ys ks
  | [], _ => rfl
  | k :: ks, h => by
    have ih := rQ (ys := ys) (ks := ks) (fun h9 => h (aL _ h9))
    unfold fk at ih ⊢
    rw [aI, List.sum_cons, aI, List.sum_cons, ih, List.count_cons_of_ne (fun e => h (by rw [e]; exact aS ..))]
theorem uh {y : Int} {ys : List Int} : ∀ {ks : List Int}, ks.Nodup → y ∈ ks → fk (y :: ys) ks = fk ys ks + 1
  | k :: ks, hn, h => by
    obtain ⟨h1, h2⟩ := List.nodup_cons.1 hn
    by_cases e : y = k
    · subst e
      have := rQ (ys := ys) h1
      unfold fk at this ⊢
      rw [aI, List.sum_cons, aI, List.sum_cons, this, List.count_cons_self]; omega
    · have ih := uh (ys := ys) h2 ((List.mem_cons.1 h).resolve_left e)
      unfold fk at ih ⊢
      rw [aI, List.sum_cons, aI, List.sum_cons, ih, List.count_cons_of_ne e]; omega
theorem qH {ks : List Int} (hn : ks.Nodup) : ∀ {ys : List Int}, (∀ y ∈ ys, y ∈ ks) → fk ys ks = ys.length
  | [], _ => xu ks
  | y :: ys, h => by
    rw [uh hn (h y (aS ..)), qH hn fun z hz => h z (aL _ hz)]; rfl
theorem q9 {ys : List Int} : ∀ {ks : List Int}, (∀ k ∈ ks, k ∈ ys) → ks.length ≤ fk ys ks
  | [], _ => Nat.zero_le _
  | k :: ks, h => by
    have ih := q9 (ys := ys) (ks := ks) fun z hz => h z (aL _ hz)
    have := List.count_pos_iff.2 (h k (aS ..))
    unfold fk at ih ⊢
    rw [aI, List.sum_cons, aw]; omega
theorem oJ {ys ks : List Int} {i : Nat} (h : i < ks.length) : fk ys (ks.take (i + 1)) = fk ys (ks.take i) + ys.count (ks.getD i 0) := by
  rw [cR h, rD]
  show _ + (([_] : List Int).map _).sum = _
  simp
def kN (T : List aX) (n : Nat) (D : List aX) : Prop := ∀ i, i < D.length → T[n + i]? = D[i]?
theorem w8 {T : List aX} {n : Nat} {D E : List aX} (h : kN T n (D ++ E)) : kN T n D := fun i hi => by
  rw [h i (by rw [aq]; omega), List.getElem?_append_left hi]
theorem wF {T : List aX} {n : Nat} {D E : List aX} (h : kN T n (D ++ E)) : kN T (n + D.length) E := fun i hi => by
  have h1 := h (D.length + i) (by rw [aq]; omega)
  rw [List.getElem?_append_right (by omega), show D.length + i - D.length = i by omega] at h1
  rw [← h1]; congr 1; omega
theorem ou {T : List aX} {n : Nat} {x : aX} {D : List aX} (h : kN T n (x :: D)) : n < T.length ∧ T.getD n nd0 = x ∧ kN T (n + 1) D := by
  have h0 := h 0 (by simp)
  rw [Nat.add_zero, List.getElem?_cons_zero] at h0
  refine ⟨(List.getElem?_eq_some_iff.1 h0).1, by rw [List.getD, h0]; rfl, fun i hi => ?_⟩
  have h1 := h (i + 1) (by simp only [aw]; omega)
  rw [List.getElem?_cons_succ] at h1
  rw [← h1]; congr 1; omega
def wI (m : Mly) (x : aX) : Prop := x.2.1 = -1 → x.1.length = 1 ∨ ∃ c, cJ m c ∧ c.Nodup ∧ 2 ≤ c.length ∧ fdW m c = none
structure GOK (m : Mly) (ini cur w : List Int) (n : Nat) (D : List aX) : Prop where
  len : D.length + jt w ≤ w.length + 258 * cur.length
  rt : ∀ (T : List aX) (g : Nat), kN T n D → T.length + 1 ≤ g + n → rtF m T g n ini cur = some (n + D.length)
  lf : ∀ x ∈ D, wI m x
  dw : ∀ (T : List aX), kN T n D → ∀ (f : Nat) (s : Int), s ∈ cur → (wdG m T f n s).1.length ≤ w.length + kV (cur.length - if w = [] then 0 else 1)
structure FOK (m : Mly) (ini cur : List Int) (a : Int) (w : List Int) (n i : Nat) (t : List aX × List dx) : Prop where
  len : t.1.length + jt w * i ≤ w.length * i + 258 * fk (ouL m cur a) ((aE (ouL m cur a)).take i)
  kl : t.2.length = i
  lf : ∀ x ∈ t.1, wI m x
  rt : ∀ (T : List aX) (g : Nat), kN T (n + 1) t.1 → T.length + 1 ≤ g + (n + 1) → ∀ x : aX, x.2.1 = a → (∀ j, j < i → x.2.2.1.getD j kd0 = t.2.getD j kd0) → (List.range i).foldl (ff m (rtF m T g) ini cur x) (some (n + 1)) = some (n + 1 + t.1.length)
  dw : ∀ (T : List aX), kN T (n + 1) t.1 → ∀ j, j < i → ∃ e : Nat, t.2.getD j kd0 = ((aE (ouL m cur a)).getD j 0, (e : Int), ()) ∧ ∀ (f : Nat) (s : Int), s ∈ bB m cur a cur.length ((aE (ouL m cur a)).getD j 0) → (wdG m T f e s).1.length ≤ w.length + kV ((bB m cur a cur.length ((aE (ouL m cur a)).getD j 0)).length - if w = [] then 0 else 1)
theorem yT {K : List dx} {k : dx} {j : Nat} (h : j < K.length) : (K ++ [k]).getD j kd0 = K.getD j kd0 := by simp [List.getD, List.getElem?_append_left h]
theorem y9 {K : List dx} {k : dx} : (K ++ [k]).getD K.length kd0 = k := by simp [List.getD]
theorem l8 {m : Mly} {ini cur w : List Int} {a : Int} {n : Nat} {rec : List Int → List Int → Nat → List aX}
    (hr : ∀ o ∈ aE (ouL m cur a), ∀ k, n + 1 ≤ k → k + w.length + 258 * (bB m cur a cur.length o).length ≤ 4096 + jt w → GOK m (bV m ini cur a cur.length o) (bB m cur a cur.length o) w k (rec (bV m ini cur a cur.length o) (bB m cur a cur.length o) k))
    (hB : ∀ i, i < (aE (ouL m cur a)).length → n + 1 + w.length * (i + 1) + 258 * fk (ouL m cur a) ((aE (ouL m cur a)).take (i + 1)) ≤ 4096 + jt w * (i + 1))
    (hC : ∀ o ∈ aE (ouL m cur a), jt w ≤ w.length + 258 * (bB m cur a cur.length o).length) : ∀ i, i ≤ (aE (ouL m cur a)).length → FOK m ini cur a w n i (((aE (ouL m cur a)).take i).foldl (dX n rec m ini cur a) ([], []))
  | 0, _ => ⟨by simp, rfl, fun x hx => (by cases hx), fun T g _ _ x _ _ => rfl, fun T _ j hj => by omega⟩
  | i + 1, hi => by
    have ih := l8 hr hB hC i (by omega)
    have ho : (aE (ouL m cur a)).getD i 0 ∈ aE (ouL m cur a) := bn (by omega)
    have hb := hB i (by omega)
    have hc := hC _ ho
    have hcs := oJ (ys := ouL m cur a) (ks := aE (ouL m cur a)) (i := i) (by omega)
    rw [← wc] at hcs
    rcases ht : ((aE (ouL m cur a)).take i).foldl (dX n rec m ini cur a) ([], []) with ⟨D, K⟩
    rw [ht] at ih
    obtain ⟨i1, i2, i3, i4, i5⟩ := ih
    simp only at i1 i2 i3 i4 i5
    rw [hcs, Nat.mul_succ, Nat.mul_succ] at hb
    have hk : n + 1 + D.length + w.length + 258 * (bB m cur a cur.length ((aE (ouL m cur a)).getD i 0)).length ≤ 4096 + jt w := by omega
    have hg := hr _ ho (n + 1 + D.length) (by omega) hk
    rw [mL (by omega) ht (by omega)]
    obtain ⟨g1, g2, g3, g4⟩ := hg
    refine ⟨?_, by simp [i2], fun x hx => ?_, fun T g hT hg x hx hK => ?_, fun T hT j hj => ?_⟩
    · show (D ++ _).length + _ ≤ _
      rw [hcs, aq, Nat.mul_succ, Nat.mul_succ]
      omega
    · rcases List.mem_append.1 hx with h | h
      · exact i3 x h
      · exact g3 x h
    · have hT1 := w8 hT
      have hT2 := wF hT
      have h1 := i4 T g hT1 hg x hx (fun j hj => by rw [hK j (by omega)]; exact yT (by omega))
      have h2 := hK i (by omega)
      have h3 : (K ++ [((aE (ouL m cur a)).getD i 0, ((n + 1 + D.length : Nat) : Int), ())]).getD i kd0 = ((aE (ouL m cur a)).getD i 0, ((n + 1 + D.length : Nat) : Int), ()) := by rw [← i2]; exact y9
      have h4 : x.2.2.1.getD i kd0 = ((aE (ouL m cur a)).getD i 0, ((n + 1 + D.length : Nat) : Int), ()) := h2.trans h3
      refine l7 h1 ?_
      rw [kE (by rw [h4, hx]; exact ⟨rfl, rfl⟩), hx, g2 T g hT2 (by omega)]
      congr 1
      show _ = n + 1 + (D ++ _).length
      rw [aq]; omega
    · by_cases e : j = i
      · subst e
        refine ⟨n + 1 + D.length, ?_, fun f s hs => g4 T (wF hT) f s hs⟩
        show (K ++ [_]).getD j kd0 = _
        rw [← i2]; exact y9
      · obtain ⟨e9, e1, e2⟩ := i5 T (w8 hT) j (by omega)
        refine ⟨e9, ?_, e2⟩
        show (K ++ [_]).getD j kd0 = _
        rw [yT (by omega)]; exact e1
theorem rY (m : Mly) : ∀ (v l : List Int), (dr m l v).length = l.length
  | [], _ => rfl
  | x :: v, l => by show (dr m (cr m l x) v).length = _; rw [rY m v]; exact aF ..
theorem uP {m : Mly} {l w : List Int} (h : spW m l w) : 2 ≤ l.length := by
  refine Classical.byContradiction fun h9 => ?_
  obtain ⟨v, c, _, hc1, _, hc3⟩ := h
  have h4 : smO m (dr m l v) c (dr m l v).length = true := iL.2 fun s t hs9 ht9 => by
    have e9 : (dr m l v).length ≤ 1 := by rw [rY]; omega
    match hq : dr m l v with
    | [] => rw [hq] at hs9; cases hs9
    | [x] => rw [hq, List.mem_singleton] at hs9 ht9; rw [hs9, ht9]
    | x :: y :: r => rw [hq] at e9; simp at e9
  rw [hc3] at h4; cases h4
theorem oF {m : Mly} (hm : MOK m) {f : Nat} (IH : ∀ (ini cur w : List Int) (n : Nat), 4098 ≤ f + n → cJ m cur → cur.Nodup → ini.length = cur.length → 0 < cur.length → dB m w → (w ≠ [] → spW m cur w) → n + w.length + 258 * cur.length ≤ 4096 + jt w → GOK m ini cur w n (cv m f ini cur w n))
    {ini cur w0 w2 : List Int} {a : Int} {n : Nat} (hgw : gJ m ini cur w0 = a :: w2) (hf : 4098 ≤ f + 1 + n) (hst : cJ m cur) (hn : cur.Nodup) (hil : ini.length = cur.length) (h0 : 0 < cur.length) (hw : dB m (a :: w2)) (hs : spW m cur (a :: w2)) (hb : n + (a :: w2).length + 258 * cur.length ≤ 4096 + 514) :
    GOK m ini cur (a :: w2) n (cv m (f + 1) ini cur w0 n) := by
  have ha := hw a (aS ..)
  have hw2 : dB m w2 := fun x hx => hw x (aL _ hx)
  obtain ⟨hu, hs2⟩ := n7.1 hs
  have hol : (ouL m cur a).length = cur.length := aF ..
  obtain ⟨u1, u2⟩ := dp (ouL m cur a)
  have und : (aE (ouL m cur a)).Nodup := u1.imp fun h e => by omega
  have hcall : fk (ouL m cur a) (aE (ouL m cur a)) = cur.length := by rw [qH und fun y hy => (u2 y).2 hy, hol]
  have hge : ∀ i, i ≤ (aE (ouL m cur a)).length → fk (ouL m cur a) ((aE (ouL m cur a)).take i) + ((aE (ouL m cur a)).length - i) ≤ cur.length := fun i hi => by
    have h1 := rD (ouL m cur a) ((aE (ouL m cur a)).take i) ((aE (ouL m cur a)).drop i)
    rw [List.take_append_drop, hcall] at h1
    have h2 := q9 (ys := ouL m cur a) (ks := (aE (ouL m cur a)).drop i) fun k hk => (u2 k).1 (List.mem_of_mem_drop hk)
    rw [List.length_drop] at h2
    omega
  have hrec : ∀ o ∈ aE (ouL m cur a), (w2 ≠ [] → spW m (bB m cur a cur.length o) w2) → ∀ k, n + 1 ≤ k → k + w2.length + 258 * (bB m cur a cur.length o).length ≤ 4096 + jt w2 → GOK m (bV m ini cur a cur.length o) (bB m cur a cur.length o) w2 k (cv m f (bV m ini cur a cur.length o) (bB m cur a cur.length o) w2 k) := fun o ho hsp k hk hkb =>
    IH _ _ w2 k (by omega) (mA hm ha hst) (xn hn hu) (gV ..) (kC ho) hw2 hsp hkb
  have hfull : FOK m ini cur a w2 n (aE (ouL m cur a)).length (((aE (ouL m cur a)).take (aE (ouL m cur a)).length).foldl (dX n (fun i c k => cv m f i c w2 k) m ini cur a) ([], [])) ∧ jt w2 * (aE (ouL m cur a)).length + w2.length ≥ 514 + w2.length * (aE (ouL m cur a)).length := by
    rcases hs2 with ⟨rfl, h2⟩ | ⟨h2, h3⟩
    · have hr2 := oD h2
      refine ⟨l8 (fun o ho => hrec o ho fun h => absurd rfl h) (fun i hi => ?_) (fun o ho => ?_) _ (Nat.le_refl _), ?_⟩
      · have := hge (i + 1) (by omega)
        rw [f0]
        simp only [aw, aH] at hb ⊢
        by_cases e : i = 0
        · subst e; omega
        · omega
      · have := kC ho
        rw [f0]; simp only [aH]; omega
      · rw [f0]; simp only [aH]; omega
    · cases w2 with
      | nil => exact absurd rfl (t8 h3)
      | cons b w3 =>
        have hall : ∀ s ∈ cur, m.out s a = m.out (cur.getD 0 0) a := fun s hs9 => iL.1 h2 _ _ hs9 (bn h0)
        have huo : aE (ouL m cur a) = [m.out (cur.getD 0 0) a] := xR (by omega) fun x hx => by
          obtain ⟨s, hs9, rfl⟩ := List.mem_map.1 hx
          exact hall s hs9
        have hgc := (uR hil hall).2
        have hlen : (cr m cur a).length = cur.length := aF ..
        have h2c : 2 ≤ (cr m cur a).length := uP h3
        have hcnt := hge 1 (by rw [huo]; simp)
        refine ⟨l8 (fun o ho => hrec o ho fun _ => ?_) (fun i hi => ?_) (fun o ho => ?_) _ (Nat.le_refl _), ?_⟩
        · rw [huo, List.mem_singleton] at ho
          rw [ho, hgc]; exact h3
        · rw [huo] at hi hcnt ⊢
          simp only [aw, aH] at hi hb hcnt
          have : i = 0 := by omega
          subst this
          rw [fC]
          simp only [aw, Nat.zero_add, Nat.mul_one]
          omega
        · rw [huo, List.mem_singleton] at ho
          rw [ho, hgc, fC]; simp only [aw]; omega
        · rw [huo, fC]; simp only [aw, aH]; omega
  rw [aJ] at hfull
  obtain ⟨⟨f1, f2, f3, f4, f6⟩, f5⟩ := hfull
  rw [aJ, hcall] at f1
  have hn4 : ¬ 4096 < n + 1 := by simp only [aw] at hb; omega
  rw [d4 hn4 hgw]
  rcases ht : (aE (ouL m cur a)).foldl (dX n (fun i c k => cv m f i c w2 k) m ini cur a) ([], []) with ⟨D, K⟩
  rw [ht] at f1 f2 f3 f4 f6
  simp only at f1 f2 f3 f4 f6 ⊢
  have hdn : ∀ o ∈ aE (ouL m cur a), w2.length + kV ((bB m cur a cur.length o).length - if w2 = [] then 0 else 1) ≤ w2.length + kV (cur.length - 1) := fun o ho => by
    obtain ⟨q, hq, eq⟩ := fR ho
    have h1 := hge (q + 1) (by omega)
    have h2 := oJ (ys := ouL m cur a) (ks := aE (ouL m cur a)) hq
    rw [eq, ← wc] at h2
    have h4 := q9 (ys := ouL m cur a) (ks := (aE (ouL m cur a)).take q) fun k hk => (u2 k).1 (List.mem_of_mem_take hk)
    rw [List.length_take] at h4
    refine Nat.add_le_add_left (tE ?_) _
    rcases hs2 with ⟨rfl, h3⟩ | ⟨h3, h5⟩
    · have h9 := oD h3
      rw [if_pos rfl]
      by_cases e : q = 0
      · omega
      · omega
    · rw [if_neg (t8 h5)]
      omega
  refine ⟨?_, fun T g hT hg => ?_, fun x hx => ?_, fun T hT f9 s hs9 => ?_⟩
  · rw [fC]; simp only [aw] at f5 ⊢; omega
  · obtain ⟨c1, c2, c3⟩ := ou hT
    obtain ⟨g, rfl⟩ : ∃ g9, g = g9 + 1 := ⟨g - 1, by omega⟩
    have e1 : (T.getD n nd0).1 = ini := by rw [c2]
    have e2 : (T.getD n nd0).2.1 = a := by rw [c2]
    have e3 : (T.getD n nd0).2.2.1 = K := by rw [c2]
    rw [kf ⟨c1, e1, hn⟩ (by rw [e2]; omega) (by rw [e2, e3]; exact ⟨ha.1, ha.2, f2.symm⟩), e3, f2]
    rw [f4 T g c3 (by omega) _ e2 (fun j _ => by rw [e3])]
    congr 1
    simp only [aw]; omega
  · rcases List.mem_cons.1 hx with h | h
    · rw [h]; intro h9
      have h8 : a = -1 := h9
      omega
    · exact f3 x h
  · obtain ⟨c1, c2, c3⟩ := ou hT
    have e2 : (T.getD n nd0).2.1 = a := by rw [c2]
    have e3 : (T.getD n nd0).2.2.1 = K := by rw [c2]
    rw [if_neg (by simp)]
    cases f9 with
    | zero => exact Nat.zero_le _
    | succ f9 =>
      have hin : m.out s a ∈ aE (ouL m cur a) := (u2 _).2 (List.mem_map.2 ⟨s, hs9, rfl⟩)
      obtain ⟨e, q1, q2⟩ := f6 T c3 _ (gR hin)
      have hgp := kZ hin
      rw [hgp] at q1 q2
      have hk : kTo K (m.out s a) = (e : Int) := by
        rw [sr (i := pos (aE (ouL m cur a)) (m.out s a)) (by rw [f2]; exact gR hin) (by rw [q1]) fun j hj h9 => ?_, q1]
        have hjl := gR hin
        obtain ⟨e8, r1, _⟩ := f6 T c3 j (by omega)
        rw [r1] at h9
        have h8 : (aE (ouL m cur a)).getD j 0 = m.out s a := h9
        have e1 : (aE (ouL m cur a)).getD j 0 = (aE (ouL m cur a))[j]'(by omega) := sH (by omega)
        have e2 : (aE (ouL m cur a)).getD (pos (aE (ouL m cur a)) (m.out s a)) 0 = (aE (ouL m cur a))[pos (aE (ouL m cur a)) (m.out s a)]'hjl := sH hjl
        have := List.pairwise_iff_getElem.1 u1 _ _ (by omega) hjl hj
        omega
      rw [wC (by rw [e2]; omega), e2, e3, hk, ah]
      have h1 := q2 f9 (m.nxt s a) (zt hs9)
      have h2 := hdn _ hin
      simp only [aw]
      omega
theorem oO {m : Mly} {ini cur : List Int} {n : Nat} (hn : cur.Nodup) (h0 : 0 < cur.length) (hl : wI m (ini, -1, [], ())) : GOK m ini cur [] n [(ini, -1, [], ())] := by
  refine ⟨by rw [f0]; simp only [aw, aH]; omega, fun T g hT hg => ?_, fun x hx => ?_, fun T hT f s _ => ?_⟩
  · obtain ⟨c1, c2, _⟩ := ou hT
    obtain ⟨g, rfl⟩ : ∃ g9, g = g9 + 1 := ⟨g - 1, by omega⟩
    have e1 : (T.getD n nd0).1 = ini := by rw [c2]
    have e2 : (T.getD n nd0).2.1 = -1 := by rw [c2]
    have e3 : (T.getD n nd0).2.2.1 = [] := by rw [c2]
    rw [d7 ⟨c1, e1, hn⟩ e2, e3]; rfl
  · rw [List.mem_singleton] at hx; rw [hx]; exact hl
  · obtain ⟨_, c2, _⟩ := ou hT
    rw [tN (by rw [c2]; show (-1 : Int) < 0; decide)]; exact Nat.zero_le _
theorem pp {m : Mly} (hm : MOK m) (n8 : m.nx.length ≤ 8) : ∀ (f : Nat) (ini cur w : List Int) (n : Nat), 4098 ≤ f + n → cJ m cur → cur.Nodup → ini.length = cur.length → 0 < cur.length → dB m w → (w ≠ [] → spW m cur w) → n + w.length + 258 * cur.length ≤ 4096 + jt w → GOK m ini cur w n (cv m f ini cur w n)
  | 0, ini, cur, w, n, hf, hst, hn, hil, h0, hw, hs, hb => by
    exfalso
    cases w with
    | nil => rw [f0] at hb; simp only [aH] at hb; omega
    | cons a w => have h9 := uP (hs (by simp)); rw [fC] at hb; simp only [aw] at hb; omega
  | f + 1, ini, cur, w, n, hf, hst, hn, hil, h0, hw, hs, hb => by
    cases w with
    | cons a w => exact oF hm (pp hm n8 f) (if_neg (by simp)) hf hst hn hil h0 hw (hs (by simp)) (by rw [fC] at hb; exact hb)
    | nil =>
      rw [f0] at hb
      simp only [aH] at hb
      by_cases h1 : 1 < ini.length
      · have hg : gJ m ini cur [] = (fdW m cur).getD [] := if_pos ⟨rfl, h1⟩
        obtain ⟨q1, q2⟩ := v3 m cur
        cases hq : (fdW m cur).getD [] with
        | nil =>
          rw [eG (by omega) (hg.trans hq)]
          exact oO hn h0 fun _ => .inr ⟨cur, hst, hn, by omega, q2 hq⟩
        | cons a w =>
          have hfd : fdW m cur = some (a :: w) := by
            cases h9 : fdW m cur with
            | none => rw [h9] at hq; cases hq
            | some v => rw [h9] at hq; have : v = a :: w := hq; rw [this]
          obtain ⟨s1, s2⟩ := A9 hfd
          rw [hq] at q1
          have s3 := x7 hm n8 hn hst q1 s1 s2
          have s4 := yg hm n8 hn hst q1 s1 s2
          obtain ⟨g1, g2, g3, g4⟩ := oF hm (pp hm n8 f) (hg.trans hq) hf hst hn hil h0 q1 s1 (by omega)
          refine ⟨?_, g2, g3, fun T hT f s hs => ?_⟩
          · rw [fC] at g1
            rw [f0]; simp only [aH]; omega
          · have h9 := g4 T hT f s hs
            rw [if_neg (by simp)] at h9
            rw [if_pos rfl]
            obtain ⟨k, hk⟩ : ∃ k, cur.length = k + 1 := ⟨cur.length - 1, by omega⟩
            rw [hk] at s4 h9 ⊢
            rw [Nat.sub_zero, kV]
            simp only [aw, aH, Nat.add_sub_cancel] at s4 h9 ⊢
            omega
      · have hg : gJ m ini cur [] = [] := if_neg fun h => h1 h.2
        rw [eG (by omega) hg]
        exact oO hn h0 fun _ => .inl (by show ini.length = 1; omega)
def fg (m : Mly) : List aX := cv m 4098 (rgI m.nx.length) (rgI m.nx.length) [] 0
theorem yw {m : Mly} (hm : MOK m) (n8 : m.nx.length ≤ 8) : (fg m).length ≤ 2064 ∧ rtF m (fg m) ((fg m).length + 1) 0 (rgI m.nx.length) (rgI m.nx.length) = some (fg m).length ∧ (∀ x ∈ fg m, wI m x) ∧ ∀ (f : Nat) (s : Int), 0 ≤ s → s < m.nx.length → (wdG m (fg m) f 0 s).1.length ≤ 255 := by
  have hn1 := hm.n1
  obtain ⟨g1, g2, g3, g4⟩ := pp hm n8 4098 (rgI m.nx.length) (rgI m.nx.length) [] 0 (by omega) (mc m) (ow _) rfl (by rw [db]; omega) (fun x hx => by cases hx) (fun h => absurd rfl h) (by rw [db, f0]; simp only [aH]; omega)
  rw [db, f0] at g1
  simp only [aH] at g1
  refine ⟨?_, ?_, g3, fun f s h0 h1 => ?_⟩
  · show (cv m 4098 (rgI m.nx.length) (rgI m.nx.length) [] 0).length ≤ 2064
    omega
  · have := g2 (fg m) ((fg m).length + 1) (fun i hi => by rw [Nat.zero_add]; rfl) (by omega)
    rw [Nat.zero_add] at this; exact this
  · have h2 := g4 (fg m) (fun i hi => by rw [Nat.zero_add]; rfl) f s (gZ.2 ⟨h0, h1⟩)
    rw [if_pos rfl, db] at h2
    have h3 := tE n8
    rw [BO] at h3
    simp only [aH] at h2
    rw [Nat.sub_zero] at h2
    omega
/-plain-/
theorem di (m : Mly) : cv m 4098 (rgI m.nx.length) (rgI m.nx.length) [] 0 = fg m := rfl
def dz (m : Mly) : Int := if ¬ dQ m = 0 then dQ m else if 4096 < (fg m).length then 11 else 0
def iE (m : Mly) : List aX := if dz m = 0 then fg m else []
def lh (m : Mly) : Bool := decide (dz m = 0) && gO (fg m)
theorem xc (m : Mly) : (fg m).length ≤ 4097 := by have := mf m 4098 (rgI m.nx.length) (rgI m.nx.length) [] 0 (by omega); rw [Nat.zero_add] at this; exact this
theorem fz {m : Mly} (h : ¬ dz m = 0) : iE m = [] ∧ lh m = false := by
  unfold iE lh; rw [if_neg h, decide_eq_false h]; exact ⟨rfl, rfl⟩
theorem gB {m : Mly} (h : dz m = 0) : iE m = fg m ∧ lh m = gO (fg m) := by
  unfold iE lh; rw [if_pos h, decide_eq_true h]; exact ⟨rfl, rfl⟩
/-plain-/
/-plain-/
/-plain-/
instance dq12 : DecidableEq aX := @instDecidableEqProd (List Int) (Int × (List dx × Unit)) inferInstance (@instDecidableEqProd Int (List dx × Unit) inferInstance inferInstance)
theorem wn {T U : List aX} {i : Nat} (h : (T.getD i nd0) ≠ (U.getD i nd0)) : ¬ T = U := fun e => h (by rw [e])
theorem lQ {T U : List aX} (hl : T.length = U.length) (h : ∀ i, i < T.length → T.getD i nd0 = U.getD i nd0) : T = U := by
  apply List.ext_getElem hl
  intro i h1 h2
  have := h i h1
  simpa [List.getD, h1, h2] using this
theorem yL {K L : List dx} (hl : K.length = L.length) (h : ∀ i, i < K.length → K.getD i kd0 = L.getD i kd0) : K = L := by
  apply List.ext_getElem hl
  intro i h1 h2
  have := h i h1
  simpa [List.getD, h1, h2] using this
theorem B5 {x y : aX} (h1 : x.2.1 = y.2.1) (h2 : x.1 = y.1) (h3 : x.2.2.1 = y.2.2.1) : x = y := by
  obtain ⟨a, b, c, _⟩ := x; obtain ⟨a2, b2, c2, _⟩ := y
  simp only at h1 h2 h3
  subst h1 h2 h3; rfl
theorem Bl {x y : dx} (h1 : x.1 = y.1) (h2 : x.2.1 = y.2.1) : x = y := by
  obtain ⟨a, b, _⟩ := x; obtain ⟨a2, b2, _⟩ := y
  simp only at h1 h2
  subst h1 h2; rfl
/-plain-/
def dP : Mly := ⟨1, 0, [[1], [2], [0]], [[0], [0], [1]]⟩
def hM : List aX := [([0, 1, 2], (0, ([(0, (1, ())), (1, (4, ()))], ()))), ([0, 1], (0, ([(0, (2, ())), (1, (3, ()))], ()))), ([0], (-1, ([], ()))), ([1], (-1, ([], ()))), ([2], (-1, ([], ())))]
def z12 : Mly := ⟨0, 0, [], []⟩
theorem cb : dP.av = .agg [.int .i64 1, .int .i64 0, .list (.list (.int .i64)) [[1], [2], [0]], .list (.list (.int .i64)) [[0], [0], [1]]] := rfl
theorem cf : AC.list ndT hM = AC.list (.pair (.list (.int .i64)) (.pair (.int .i64) (.pair (.list (.pair (.int .i64) (.pair (.int .i64) .unit))) .unit))) [([0, 1, 2], (0, ([(0, (1, ())), (1, (4, ()))], ()))), ([0, 1], (0, ([(0, (2, ())), (1, (3, ()))], ()))), ([0], (-1, ([], ()))), ([1], (-1, ([], ()))), ([2], (-1, ([], ())))] := rfl
def v4 (xs : List Int) : List Int := xs.foldl jw []
def tb (m : Mly) : Nat → List Int → List Int → List Int → Nat → List aX
  | 0, _, _, _, _ => []
  | f + 1, ini, cur, w, n => if 4096 < n + 1 then [(ini, -1, [], ())] else
    match gJ m ini cur w with
    | [] => [(ini, -1, [], ())]
    | a :: w2 => (ini, a, ((v4 (ouL m cur a)).foldl (dX n (fun i c k => tb m f i c w2 k) m ini cur a) ([], [])).2, ()) :: ((v4 (ouL m cur a)).foldl (dX n (fun i c k => tb m f i c w2 k) m ini cur a) ([], [])).1
theorem qG (m : Mly) : ∀ f, tb m f = cv m f
  | 0 => rfl
  | f + 1 => by
    funext ini cur w n
    rw [tb, cv, qG m f]
    have e : v4 = aE := by funext xs; exact mT xs
    rw [e]
    cases gJ m ini cur w <;> rfl
theorem Ay : aT dP = 0 := by decide +kernel
theorem vE : dQ dP = 0 := by decide +kernel
theorem sS : fg dP = hM := by
  show cv dP 4098 _ _ [] 0 = _
  rw [← qG]; decide +kernel
theorem zR : dz dP = 0 := by unfold dz; rw [vE, sS]; decide
theorem qS : iE dP = hM := by rw [(gB zR).1, sS]
theorem BI : lh dP = true := by rw [(gB zR).2, sS]; decide
theorem BH : ¬ dz z12 = 0 := by
  have e : dQ z12 = 2 := by decide +kernel
  unfold dz; rw [e]; decide
theorem Ax : eh dP hM = 0 := by
  unfold eh
  rw [if_neg (fun h => h vE), if_neg]
  have h := (yw (fc Ay) (by decide)).2.1
  rw [sS] at h
  exact fun h9 => h9.elim (by decide) (fun h8 => h8 h)
theorem B8 : i8 dP hM 0 = 0 := by unfold i8; rw [Ax]; decide
theorem BD : jl dP hM 0 = ([0, 0], 2) := by decide +kernel
theorem Bg : dpT hM = 2 := by decide +kernel
theorem B1 : eh dP [] = 1 := by
  unfold eh
  rw [if_neg (fun h => h vE), if_pos]
  right
  rw [kt (by simp)]; simp
/-plain-/
theorem me {P : Program} {f : FuncId} {xs ys : List AV} {r : AV} (h : bG P f ys r) (hv : bo VLE xs ys) : bG P f xs r :=
  ⟨h.1, fun C L σ w vs hP hi ha => h.2 C L σ w vs hP hi (hv.map2 (fun a b c hab hac => hab C L σ w c hac) ha)⟩
/-plain-/
theorem xe {C : Ctx} {Q : Go.Exit → St → Prop} {s : St} {c : Go.Code} {L1 G : List AO} (hG : G = [] ∨ ∃ ob, G = [ob]) (hL : s.L = L1 ++ G) (hB : C.bL.length ≤ L1.length) (he : s.env.all (fun x => gh L1.length x.2) = true) (ho : L1.all (dR L1.length) = true)
    (h : AWP C c Q { env := s.env, L := L1 }) : AWP C c Q s := by
  rcases hG with rfl | ⟨ob, rfl⟩
  · rw [List.append_nil] at hL
    have : s = { env := s.env, L := L1 } := by cases s; simp only at hL; rw [hL]
    rw [this]; exact h
  · exact ee hL hB he ho h
/-plain-/
def gQ (T : List aX) : Bool := decide (T.length ≤ 60) && T.all fun x => decide (x.1.length ≤ 20) && decide (x.2.2.1.length ≤ 20)
theorem Bo {T : List aX} {i : Nat} (hi : i < T.length) (h : 20 < (T.getD i nd0).1.length ∨ 20 < (T.getD i nd0).2.2.1.length) : gQ T = false := by
  unfold gQ
  rw [Bool.and_eq_false_iff]; right
  rw [List.all_eq_false]
  refine ⟨T.getD i nd0, by rw [List.getD, List.getElem?_eq_getElem hi]; exact List.getElem_mem hi, ?_⟩
  simp only [Bool.and_eq_true, decide_eq_true_eq]
  omega
theorem vC {T : List aX} (h0 : T.length ≤ 60) (h : ∀ j, j < T.length → (T.getD j nd0).1.length ≤ 20 ∧ (T.getD j nd0).2.2.1.length ≤ 20) : gQ T = true := by
  unfold gQ
  rw [decide_eq_true h0, Bool.true_and, List.all_eq_true]
  intro x hx
  obtain ⟨i, hi, rfl⟩ := List.getElem_of_mem hx
  have := h i hi
  rw [List.getD, List.getElem?_eq_getElem hi] at this
  simp only [Option.getD_some] at this
  rw [Bool.and_eq_true, decide_eq_true_eq, decide_eq_true_eq]; exact this
theorem vq {T : List aX} (h : gQ T = true) : T.length ≤ 60 ∧ ∀ x ∈ T, x.2.2.1.length ≤ 20 := by
  unfold gQ at h
  rw [Bool.and_eq_true, decide_eq_true_eq, List.all_eq_true] at h
  refine ⟨h.1, fun x hx => ?_⟩
  have := h.2 x hx
  rw [Bool.and_eq_true, decide_eq_true_eq, decide_eq_true_eq] at this; exact this.2
def er (n i : Nat) (l : List Int) (k : dx) : List Int := if (i : Int) < k.2.1 ∧ k.2.1 < (n : Int) then l.set k.2.1.toNat (min 2001 (l.getD k.2.1.toNat 0 + l.getD i 0)) else l
def AY (T : List aX) (p : List Int × Int) (i : Nat) : List Int × Int :=
  ((T.getD i nd0).2.2.1.foldl (er T.length i) (if i = 0 then p.1.set i 1 else p.1), min 2001 (p.2 + (if i = 0 then p.1.set i 1 else p.1).getD i 0))
def fm (T : List aX) (i : Nat) : List Int × Int := (List.range i).foldl (AY T) (List.replicate T.length 0, 0)
def fh (T : List aX) (i : Nat) : List Int := if i = 0 then (fm T i).1.set i 1 else (fm T i).1
def m9 (n : Nat) (l : List Int) : Prop := l.length = n ∧ ∀ j, 0 ≤ l.getD j 0 ∧ l.getD j 0 ≤ 2001
theorem sA {n : Nat} {l : List Int} {j : Nat} {x : Int} (h : m9 n l) (h0 : 0 ≤ x) (h1 : x ≤ 2001) : m9 n (l.set j x) := by
  refine ⟨by rw [List.length_set]; exact h.1, fun q => ?_⟩
  rw [List.getD, List.getElem?_set]
  split
  · split
    · exact ⟨h0, h1⟩
    · exact ⟨Int.le_refl _, by decide⟩
  · exact h.2 q
theorem Bw {n i : Nat} {l : List Int} {k : dx} (h : m9 n l) : m9 n (er n i l k) := by
  unfold er
  split
  · have h1 := h.2 k.2.1.toNat
    have h2 := h.2 i
    exact sA h (by omega) (by omega)
  · exact h
theorem mn {n i : Nat} : ∀ (K : List dx) {l : List Int}, m9 n l → m9 n (K.foldl (er n i) l)
  | [], _, h => h
  | k :: K, _, h => mn K (Bw h)
theorem wL (T : List aX) : ∀ i, m9 T.length (fm T i).1 ∧ 0 ≤ (fm T i).2 ∧ (fm T i).2 ≤ 2001
  | 0 => by
    refine ⟨⟨aD, fun j => ?_⟩, Int.le_refl _, by show (0 : Int) ≤ 2001; decide⟩
    have e : (List.replicate T.length (0 : Int)).getD j 0 = 0 := by rw [List.getD, List.getElem?_replicate]; split <;> rfl
    have e2 : (fm T 0).1.getD j 0 = 0 := e
    omega
  | i + 1 => by
    obtain ⟨h1, h2, h3⟩ := wL T i
    have e : fm T (i + 1) = AY T (fm T i) i := by unfold fm; rw [List.range_succ, List.foldl_append]; rfl
    have hl : m9 T.length (if i = 0 then (fm T i).1.set i 1 else (fm T i).1) := by
      split
      · exact sA h1 (by decide) (by decide)
      · exact h1
    rw [e]
    have h4 := hl.2 i
    exact ⟨mn _ hl, by show 0 ≤ min 2001 _; omega, by show min 2001 _ ≤ (2001 : Int); omega⟩
theorem vO (T : List aX) (i : Nat) : m9 T.length (fh T i) := by
  unfold fh
  split
  · exact sA (wL T i).1 (by decide) (by decide)
  · exact (wL T i).1
theorem qZ (T : List aX) (i : Nat) : fm T (i + 1) = ((T.getD i nd0).2.2.1.foldl (er T.length i) (fh T i), min 2001 ((fm T i).2 + (fh T i).getD i 0)) := by
  unfold fm; rw [List.range_succ, List.foldl_append]; rfl
theorem qI {n i j : Nat} {K : List dx} {l : List Int} (h : j < K.length) : (K.take (j + 1)).foldl (er n i) l = er n i ((K.take j).foldl (er n i) l) (K.getD j kd0) := by
  rw [tI h, List.foldl_append]; rfl
/-plain-/
def iR (m : Mly) : Bool := (decide (12 < m.nx.length) || decide (12 < m.ot.length) || decide (6 < m.inp)) || (m.nx.any (fun r => decide (12 < r.length)) || m.ot.any (fun r => decide (12 < r.length)))
theorem Ap {m : Mly} (h : (12 < m.nx.length ∨ 12 < m.ot.length) ∨ 6 < m.inp) : iR m = true := by
  unfold iR
  rw [Bool.or_eq_true]; left
  simp only [Bool.or_eq_true, decide_eq_true_eq]; exact h
theorem AI {m : Mly} {k : Nat} (hk : k < m.nx.length) (h : 12 < (m.nx.getD k []).length) : iR m = true := by
  unfold iR
  rw [Bool.or_eq_true]; right; rw [Bool.or_eq_true]; left
  refine List.any_eq_true.2 ⟨_, List.getElem_mem hk, ?_⟩
  rw [List.getD, List.getElem?_eq_getElem hk] at h
  exact decide_eq_true h
theorem zU {m : Mly} {k : Nat} (hk : k < m.ot.length) (h : 12 < (m.ot.getD k []).length) : iR m = true := by
  unfold iR
  rw [Bool.or_eq_true]; right; rw [Bool.or_eq_true]; right
  refine List.any_eq_true.2 ⟨_, List.getElem_mem hk, ?_⟩
  rw [List.getD, List.getElem?_eq_getElem hk] at h
  exact decide_eq_true h
theorem o7 {m : Mly} (h0 : ¬ ((12 < m.nx.length ∨ 12 < m.ot.length) ∨ 6 < m.inp)) (h1 : ∀ q, q < m.nx.length → (m.nx.getD q []).length ≤ 12) (h2 : ∀ q, q < m.ot.length → (m.ot.getD q []).length ≤ 12) : iR m = false := by
  have any_no : ∀ (L : List (List Int)), (∀ q, q < L.length → (L.getD q []).length ≤ 12) → L.any (fun r => decide (12 < r.length)) = false := fun L h => by
    rw [List.any_eq_false]
    intro x hx
    obtain ⟨i, hi, rfl⟩ := List.getElem_of_mem hx
    have := h i hi
    rw [List.getD, List.getElem?_eq_getElem hi] at this
    simp only [Option.getD_some] at this
    rw [decide_eq_true_eq]; omega
  unfold iR
  rw [any_no _ h1, any_no _ h2, decide_eq_false (by omega), decide_eq_false (by omega), decide_eq_false (by omega)]; rfl
def wm (m : Mly) : Bool := (!iR m && decide (m.nx.length ≤ 8)) && decide (m.inp ≤ 4)
/-plain-/
/-plain-/
/-plain-/
/-plain-/
def Dfa.sg (d : Dfa) (cl : List Int) (s : Nat) : List Int := cl.getD s 0 :: (d.nx.getD s []).map fun t => cl.getD t.toNat 0
def Dfa.nxL (d : Dfa) (cl : List Int) : List Int := (List.range d.nx.length).map fun s => (pos (cY (d.sg cl) d.nx.length) (d.sg cl s) : Int)
def Dfa.cl (d : Dfa) : Nat → List Int
  | 0 => (List.range d.nx.length).map (BA d)
  | i + 1 => d.nxL (d.cl i)
def Dfa.cn (d : Dfa) : Nat → Nat
  | 0 => 0
  | i + 1 => (cY (d.sg (d.cl i)) d.nx.length).length
def Bu (n : Int) (w : List Int) : Prop := ∀ x, x ∈ w → 0 ≤ x ∧ x < n
def DEQ (a b : Dfa) (s t : Int) : Prop := ∀ w : List Int, Bu a.inp w → a.ac (a.run s w) = b.ac (b.run t w)
theorem DEQ.acc {a b : Dfa} {s t : Int} (h : DEQ a b s t) : a.ac s = b.ac t := h [] (fun x hx => by cases hx)
theorem DEQ.refl (d : Dfa) (s : Int) : DEQ d d s s := fun _ _ => rfl
theorem DEQ.symm {d : Dfa} {s t : Int} (h : DEQ d d s t) : DEQ d d t s := fun w hw => (h w hw).symm
theorem DEQ.trans {d : Dfa} {s t u : Int} (h : DEQ d d s t) (h2 : DEQ d d t u) : DEQ d d s u := fun w hw => (h w hw).trans (h2 w hw)
/-plain-/
/-plain-/
structure SIM (A B : STP) (n : Nat) (R : PP → PP → Prop) : Prop where
  st : ∀ p q, R p q → ∀ x, x < n → R (A p x) (B q x)
  bi : ∀ p q p' q', R p q → R p' q' → (p = p' ↔ q = q')
def RL (R : PP → PP → Prop) (l l' : List W3) : Prop := l.length = l'.length ∧ ∀ i, i < l.length → R (l.getD i w30).1 (l'.getD i w30).1 ∧ (l.getD i w30).2 = (l'.getD i w30).2
theorem RL.mem {A B : STP} {n : Nat} {R : PP → PP → Prop} (hs : SIM A B n R) {l l' : List W3} (h : RL R l l') {p q : PP} (hr : R p q) : p ∈ l.map Prod.fst ↔ q ∈ l'.map Prod.fst := by
  constructor
  · intro hm
    obtain ⟨e, he, e1⟩ := List.mem_map.1 hm
    obtain ⟨i, hi⟩ := List.getElem?_of_mem he
    have hlt := (List.getElem?_eq_some_iff.1 hi).1
    have h2 := h.2 i hlt
    have h3 : l.getD i w30 = e := by rw [List.getD, hi]; rfl
    rw [h3, e1] at h2
    have := (hs.bi _ _ _ _ h2.1 hr).1 rfl
    rw [← this]
    exact List.mem_map.2 ⟨_, ta (by rw [← h.1]; exact hlt), rfl⟩
  · intro hm
    obtain ⟨e, he, e1⟩ := List.mem_map.1 hm
    obtain ⟨i, hi⟩ := List.getElem?_of_mem he
    have hlt := (List.getElem?_eq_some_iff.1 hi).1
    have h2 := h.2 i (by rw [h.1]; exact hlt)
    have h3 : l'.getD i w30 = e := by rw [List.getD, hi]; rfl
    rw [h3, e1] at h2
    have := (hs.bi _ _ _ _ h2.1 hr).2 rfl
    rw [← this]
    exact List.mem_map.2 ⟨_, ta (by rw [h.1]; exact hlt), rfl⟩
theorem RL.snoc {R : PP → PP → Prop} {l l' : List W3} (h : RL R l l') {e f : W3} (hr : R e.1 f.1) (hw : e.2 = f.2) : RL R (l ++ [e]) (l' ++ [f]) := by
  refine ⟨by simp [h.1], fun i hi => ?_⟩
  rw [aq, List.length_singleton] at hi
  by_cases e1 : i < l.length
  · rw [dD e1, dD (by rw [← h.1]; exact e1)]; exact h.2 i e1
  · rw [gv (by omega), gv (by have := h.1; omega)]; exact ⟨hr, hw⟩
theorem RL.row {A B : STP} {n : Nat} {R : PP → PP → Prop} (hs : SIM A B n R) {l l' : List W3} (h : RL R l l') {e f : W3} (hr : R e.1 f.1) (hw : e.2 = f.2) : ∀ x, x ≤ n → RL R (js A e l x) (js B f l' x)
  | 0, _ => h
  | x + 1, hx => by
    have ih := h.row hs hr hw x (by omega)
    have h2 := hs.st _ _ hr x (by omega)
    rw [jh, jh]
    by_cases hm : A e.1 x ∈ (js A e l x).map Prod.fst
    · rw [sY hm, sY ((ih.mem hs h2).1 hm)]; exact ih
    · rw [pA hm, pA (fun k => hm ((ih.mem hs h2).2 k))]
      exact ih.snoc h2 (by rw [hw])
theorem RL.one {R : PP → PP → Prop} {p q : PP} (h : R p q) : RL R [(p, [])] [(q, [])] := ⟨rfl, fun i hi => by
  have : i = 0 := by simpa using hi
  subst this; exact ⟨h, rfl⟩⟩
/-plain-/
/-plain-/
def SLT (u v : List Int) : Prop := u.length < v.length ∨ (u.length = v.length ∧ ∃ m, m < u.length ∧ (∀ q, q < m → u.getD q 0 = v.getD q 0) ∧ u.getD m 0 < v.getD m 0)
def SLE (u v : List Int) : Prop := u = v ∨ SLT u v
theorem SLT.trans {u v w : List Int} (h : SLT u v) (h2 : SLT v w) : SLT u w := by
  rcases h with h | ⟨h, m, a1, a2, a3⟩
  · rcases h2 with h2 | ⟨h2, _⟩
    · exact .inl (by omega)
    · exact .inl (by omega)
  · rcases h2 with h2 | ⟨h2, k, b1, b2, b3⟩
    · exact .inl (by omega)
    · refine .inr ⟨by omega, ?_⟩
      rcases Nat.lt_trichotomy m k with e | e | e
      · exact ⟨m, a1, fun q hq => (a2 q hq).trans (b2 q (by omega)), by rw [← b2 m e]; exact a3⟩
      · subst e; exact ⟨m, a1, fun q hq => (a2 q hq).trans (b2 q hq), by omega⟩
      · exact ⟨k, by omega, fun q hq => (a2 q (by omega)).trans (b2 q hq), by rw [a2 k e]; exact b3⟩
theorem SLE.trans_lt {u v w : List Int} (h : SLE u v) (h2 : SLT v w) : SLT u w := by
  rcases h with rfl | h
  · exact h2
  · exact h.trans h2
theorem SLE.trans {u v w : List Int} (h : SLE u v) (h2 : SLE v w) : SLE u w := by
  rcases h2 with rfl | h2
  · exact h
  · exact .inr (h.trans_lt h2)
theorem SLT.app {u v : List Int} (h : SLT u v) (a b : Int) : SLT (u ++ [a]) (v ++ [b]) := by
  rcases h with h | ⟨h, m, a1, a2, a3⟩
  · exact .inl (by simp; omega)
  · refine .inr ⟨by simp; omega, m, by simp; omega, fun q hq => ?_, ?_⟩
    · rw [dD (by omega), dD (by omega)]; exact a2 q hq
    · rw [dD a1, dD (by omega)]; exact a3
theorem SLE.app {u v : List Int} (h : SLE u v) (a : Int) : SLE (u ++ [a]) (v ++ [a]) := by
  rcases h with rfl | h
  · exact .inl rfl
  · exact .inr (h.app a a)
theorem SLT.nil (u : List Int) (x : Int) : SLT [] (u ++ [x]) := .inl (by simp)
theorem SLE.len {u v : List Int} (h : SLE u v) : u.length ≤ v.length := by
  rcases h with rfl | h | ⟨h, _⟩ <;> omega
structure BW (A : STP) (n i : Nat) (l : List W3) : Prop where
  so : ∀ j k, j < k → k < l.length → SLT (l.getD j w30).2 (l.getD k w30).2
  mi : ∀ j, j < i → j < l.length → ∀ x, x < n → ∃ k, k < l.length ∧ (l.getD k w30).1 = A (l.getD j w30).1 x ∧ SLE (l.getD k w30).2 ((l.getD j w30).2 ++ [(x : Int)])
  up : i < l.length → ∀ k, k < l.length → SLT (l.getD k w30).2 ((l.getD i w30).2 ++ [0])
structure BX (A : STP) (n i x : Nat) (l0 l : List W3) : Prop where
  so : ∀ j k, j < k → k < l.length → SLT (l.getD j w30).2 (l.getD k w30).2
  mi : ∀ y, y < x → ∃ k, k < l.length ∧ (l.getD k w30).1 = A (l0.getD i w30).1 y ∧ SLE (l.getD k w30).2 ((l0.getD i w30).2 ++ [(y : Int)])
  up : ∀ k, k < l.length → SLT (l.getD k w30).2 ((l0.getD i w30).2 ++ [(x : Int)])
/-plain-/
structure LCL (A : STP) (n : Nat) (L : List W3) : Prop where
  nd : (L.map Prod.fst).Nodup
  cl : ∀ j, j < L.length → ∀ x, x < n → A (L.getD j w30).1 x ∈ L.map Prod.fst
variable {A : STP} {G : PP → Bool} {n : Nat} {L : List W3}
/-plain-/
def Dfa.sto (d : Dfa) : Nat → Nat → Nat
  | 0, i => i
  | f + 1, i => if d.cn (i + 1) = d.cn i then i else d.sto f (i + 1)
def Dfa.cls (d : Dfa) : List Int := d.cl (d.sto (d.nx.length + 1) 0 + 1)
def fsV (cl : List Int) (n s c : Nat) : Int := match (List.range n).find? (fun q => decide (s ≤ q) && decide (cl.getD q 0 = (c : Int))) with | some q => (q : Int) | none => 0
def fsL (cl : List Int) (n s : Nat) : List Int := (List.range n).map fun c => fsV cl n s c
def Dfa.rep (d : Dfa) (s : Int) : Int := (fsL d.cls d.nx.length 0).getD (d.cls.getD s.toNat 0).toNat 0
structure RPR (d : Dfa) (s r : Int) : Prop where
  rg : 0 ≤ r ∧ r < d.nx.length
  le : r ≤ s
  cl : d.cls.getD r.toNat 0 = d.cls.getD s.toNat 0
  mi : ∀ q : Nat, (q : Int) < r → d.cls.getD q 0 ≠ d.cls.getD s.toNat 0
/-plain-/
structure M1OK (d : Dfa) (q : PP) (x : Nat) : Prop where
  r1 : 0 ≤ q.1 ∧ q.1 < d.nx.length
  rl : ((d.nx.getD q.1.toNat []).length : Int) = d.inp
  t1 : 0 ≤ (d.nx.getD q.1.toNat []).getD x 0 ∧ (d.nx.getD q.1.toNat []).getD x 0 < d.nx.length
  c1 : 0 ≤ d.cls.getD ((d.nx.getD q.1.toNat []).getD x 0).toNat 0 ∧ d.cls.getD ((d.nx.getD q.1.toNat []).getD x 0).toNat 0 < d.nx.length
  e : d.rep (d.dl q.1 x) = (fsL d.cls d.nx.length 0).getD (d.cls.getD ((d.nx.getD q.1.toNat []).getD x 0).toNat 0).toNat 0
/-plain-/
structure SHP (d : Dfa) (P : List W3) (k : Nat) : Prop where
  rg : 0 ≤ (P.getD k w30).1.1 ∧ (P.getD k w30).1.1 < d.nx.length
/-plain-/
/-plain-/
/-plain-/
def lq (P : Nat → Bool) (s : Nat) : Nat := ((List.range s).find? P).getD s
def rc0 (t : Dfa) (s : Nat) : Int := (lq (fun q => decide (t.acc.getD q false = t.acc.getD s false)) s : Int)
def rcF (t : Dfa) (cl : List Int) (s : Nat) : Int := (lq (fun q => decide (t.sg cl q = t.sg cl s)) s : Int)
def rcl (t : Dfa) : Nat → List Int
  | 0 => (List.range t.nx.length).map (rc0 t)
  | r + 1 => (List.range t.nx.length).map (rcF t (rcl t r))
def rC (t : Dfa) : List Int := rcl t t.nx.length
structure RCK (t : Dfa) : Prop where
  rg : ∀ s, s < t.nx.length → 0 ≤ (rC t).getD s 0 ∧ (rC t).getD s 0 ≤ s
  eq : ∀ s u, s < t.nx.length → u < t.nx.length → ((rC t).getD s 0 = (rC t).getD u 0 ↔ DEQ t t s u)
  id : ∀ s, s < t.nx.length → (rC t).getD ((rC t).getD s 0).toNat 0 = (rC t).getD s 0
/-plain-/
/-plain-/
structure PRL (a b M : Mly) (w : List Int) : Prop where
  v : aT M = 0
  st : M.st = 0
  re : M.reach.length = M.nx.length
  ea : iD a a.st w = fQ w a.inp
  eb : iD b b.st w = fQ w a.inp
  em : iD M M.st w = fQ w a.inp
  la : (eV a a.st w).length = (eV M M.st w).length
  lb : (eV b b.st w).length = (eV M M.st w).length
  at_ : ∀ i, i < (eV M M.st w).length → (eV M M.st w).getD i 0 = (eV a a.st w).getD i 0 * (1 + gr b) + (eV b b.st w).getD i 0
structure CAL (a b M : Mly) (w : List Int) : Prop where
  v : aT M = 0
  ea : iD a a.st w = fQ w a.inp
  em : iD M M.st w = fQ w a.inp
  eb : fQ w a.inp = 0 → iD b b.st (eV a a.st w) = 0
  vb : fQ w a.inp = 0 → eV b b.st (eV a a.st w) = eV M M.st w
def plU (n : Int) (w : List Int) : List Int := w.filter fun x => decide (x < n)
def plV (n : Int) (w : List Int) : List Int := (w.filter fun x => !decide (x < n)).map fun x => x - n
def plA (n : Int) (e : List (Int × Int)) : List Int := (e.filter fun x => decide (x.1 < n)).map (·.2)
def plB (n k : Int) (e : List (Int × Int)) : List Int := (e.filter fun x => !decide (x.1 < n)).map fun x => x.2 - 1 - k
structure PLL (a b M : Mly) (w : List Int) : Prop where
  v : aT M = 0
  inp : M.inp = a.inp + b.inp
  em : iD M M.st w = fQ w (a.inp + b.inp)
  lm : fQ w (a.inp + b.inp) = 0 → (eV M M.st w).length = w.length
  ea : fQ w (a.inp + b.inp) = 0 → iD a a.st (plU a.inp w) = 0
  eb : fQ w (a.inp + b.inp) = 0 → iD b b.st (plV a.inp w) = 0
  va : fQ w (a.inp + b.inp) = 0 → eV a a.st (plU a.inp w) = plA a.inp (w.zip (eV M M.st w))
  vb : fQ w (a.inp + b.inp) = 0 → eV b b.st (plV a.inp w) = plB a.inp (gr a) (w.zip (eV M M.st w))
end Go.AV
namespace Go.Proofs.Ytoahhklogohehaa
open Go Go.AV
open Nat renaming reduceEqDiff → aa, reduceAdd → V, reduceLeDiff → ad, reduceLT → ag, reduceMul → af, reduceSub → ae
open List renaming set_cons_zero → cG, set_cons_succ → cm, getD_cons_zero → au, length_append → aq, map_cons → aI, cons_append → aP, map_nil → bl, length_cons → aw, nil_append → bc, take_succ_cons → dA, length_nil → aH, length_map → aF, length_replicate → aD, take_length → aJ, mem_cons_self → aS, mem_cons_of_mem → aL
open Int renaming toNat_natCast → ah
theorem zT : type_of% (And.intro Try.ea159 (And.intro Try.el107 (And.intro Try.el118 (And.intro Try.el129 (And.intro Try.el22 (And.intro Try.el27 (And.intro Try.el41 (And.intro Try.el50 (And.intro Try.el91 (And.intro Try.fl58 (And.intro Try.mk115 (And.intro Try.mk157 (And.intro Try.sa159 (And.intro Try.st117 (And.intro Try.st24 (And.intro Try.st29 (And.intro Try.st52 (And.intro Try.st58 (And.intro Try.st62 (And.intro Try.st66 (And.intro Try.td1 (And.intro Try.td107 (And.intro Try.td117 (And.intro Try.td118 (And.intro Try.td129 (And.intro Try.td132 (And.intro Try.td159 (And.intro Try.td2 (And.intro Try.td22 (And.intro Try.td24 (And.intro Try.td27 (And.intro Try.td29 (And.intro Try.td3 (And.intro Try.td30 (And.intro Try.td4 (And.intro Try.td41 (And.intro Try.td5 (And.intro Try.td50 (And.intro Try.td52 (And.intro Try.td58 (And.intro Try.td60 (And.intro Try.td62 (And.intro Try.td66 (And.intro Try.td77 (And.intro Try.td9 Try.td91))))))))))))))))))))))))))))))))))))))))))))) :=
  And.intro Try.ea159 (And.intro Try.el107 (And.intro Try.el118 (And.intro Try.el129 (And.intro Try.el22 (And.intro Try.el27 (And.intro Try.el41 (And.intro Try.el50 (And.intro Try.el91 (And.intro Try.fl58 (And.intro Try.mk115 (And.intro Try.mk157 (And.intro Try.sa159 (And.intro Try.st117 (And.intro Try.st24 (And.intro Try.st29 (And.intro Try.st52 (And.intro Try.st58 (And.intro Try.st62 (And.intro Try.st66 (And.intro Try.td1 (And.intro Try.td107 (And.intro Try.td117 (And.intro Try.td118 (And.intro Try.td129 (And.intro Try.td132 (And.intro Try.td159 (And.intro Try.td2 (And.intro Try.td22 (And.intro Try.td24 (And.intro Try.td27 (And.intro Try.td29 (And.intro Try.td3 (And.intro Try.td30 (And.intro Try.td4 (And.intro Try.td41 (And.intro Try.td5 (And.intro Try.td50 (And.intro Try.td52 (And.intro Try.td58 (And.intro Try.td60 (And.intro Try.td62 (And.intro Try.td66 (And.intro Try.td77 (And.intro Try.td9 Try.td91))))))))))))))))))))))))))))))))))))))))))))
def Mof (d : Int × (Int × (List (List Int) × (List (List Int) × Unit)))) : Mly := ⟨d.1, d.2.1, d.2.2.1, d.2.2.2.1⟩
theorem yM (m : Mly) (cl : List Int) (hm : MOK m) (hl : cl.length = m.nx.length) (hr : ∀ s, s < m.nx.length → 0 ≤ cl.getD s 0 ∧ cl.getD s 0 < m.nx.length) : bG Try.prog 108 [m.av, .one (.list (.int .i64) cl)] (.tup [.one (.list (.int .i64) (m.nextL cl)), .one (.int .i64 (m.nextN cl))]) := by
 have hn2 := hm.n2; have hi2 := hm.i2; have hi1 := hm.i1; have hol := hm.ol
 refine aR Try.func108 rfl (by kernel_rfl) (Nat.le_of_ble_eq_true rfl) rfl fun C hP hN hB => ?_
 replace hN : C.N = 73 := hN
 simp only [bf, V]
 refine ai fun _ k1 => ?_
 refine ak hP hN rfl ?_
 iterate 3 (refine aj rfl fun _ k0 => ?_; simp only [zO, zT, acs, reduceCtorEq, aa, V, ad, ag, af, ae, Mly.av, bu, bC, bp, bz, bv, List.length_set]; (repeat refine an ?_); (try refine .inl ?_); apply k0; clear k0; simp only [zP, V])
 refine am ?_
 apply k1; clear k1; refine kp [0, 1, 2, 4, 5] ?_
 refine ai fun _ k2 => ?_
 refine ak hP hN rfl ?_
 (refine aj rfl fun _ k0 => ?_; simp only [zE, op1, ev, lkp, cW, bJ, jg, reduceCtorEq, aa, V, ad, ag, af, ae, Try.mk157, Mly.av, bu, bC, bp, bz, bv, List.length_set]; (repeat refine an ?_); (try refine .inl ?_); apply k0; clear k0; simp only [zP, V])
 (refine aj rfl fun _ k0 => ?_; simp only [zO, zT, acs, reduceCtorEq, aa, V, ad, ag, af, ae, Mly.av, bu, bC, bp, bz, bv, List.length_set]; (repeat refine an ?_); (try refine .inl ?_); apply k0; clear k0; simp only [zP, V])
 refine am ?_
 apply k2; clear k2; refine kp [0, 1, 2, 4, 5, 6] ?_
 refine ai fun _ k3 => ?_
 refine ak hP hN rfl ?_
 iterate 2 (refine aj rfl fun _ k0 => ?_; simp only [zO, zT, acs, reduceCtorEq, aa, V, ad, ag, af, ae, Mly.av, bu, bC, bp, bz, bv, List.length_set]; (repeat refine an ?_); (try refine .inl ?_); apply k0; clear k0; simp only [zP, V])
 (refine aj rfl fun _ k0 => ?_; simp only [zE, op1, ev, lkp, cW, bJ, ca, eQ, dS, cE, cV, dZ, Nat.div_one, cD, cZ, Ty.size, bq, dite_true, cL, Ty.dflt, reduceCtorEq, aa, V, ad, ag, af, ae, Try.el41, Try.td3, Try.td41, Mly.av, bu, bC, bp, bz, bv, List.length_set]; (repeat refine an ?_); (try refine .inl ?_); apply k0; clear k0; simp only [zP, V])
 (refine aj rfl fun _ k0 => ?_; simp only [zO, zT, acs, reduceCtorEq, aa, V, ad, ag, af, ae, Mly.av, bu, bC, bp, bz, bv, List.length_set]; (repeat refine an ?_); (try refine .inl ?_); apply k0; clear k0; simp only [zP, V])
 refine am ?_
 apply k3; clear k3; refine kp [0, 1, 2, 4, 5, 6, 7] ?_
 refine ai fun _ k4 => ?_
 refine ai fun _ k5 => ?_
 refine ak hP hN rfl ?_
 iterate 3 (refine aj rfl fun _ k0 => ?_; simp only [zO, zT, acs, reduceCtorEq, aa, V, ad, ag, af, ae, Mly.av, bu, bC, bp, bz, bv, List.length_set]; (repeat refine an ?_); (try refine .inl ?_); apply k0; clear k0; simp only [zP, V])
 refine am ?_
 apply k5; clear k5; refine kp [0, 1, 2, 4, 5, 6, 7, 18, 19] ?_
 refine aB ?_
 refine aZ (fun n6 s6 => ∃ (k : Nat), (k ≤ m.nx.length) ∧ n6 = m.nx.length - k ∧ s6 = { env := [(1, .one (.list (.int .i64) cl)), (2, .one (.ptr 0 0 0 0)), (6, .one (.mpv 1)), (7, .one (.row 2 0)), (18, .one (.int .i64 (cl.length : Int))), (19, .one (.int .i64 (k : Int)))], L := [.vars 24 [.int .i64 m.inp, .int .i64 m.st, .list (.list (.int .i64)) m.nx, .list (.list (.int .i64)) m.ot], .mp 157 .int (nu (cY (m.sig cl) k)), .row (.int .i64) 3 0 (jF (fun s => (pos (cY (m.sig cl) m.nx.length) (m.sig cl s) : Int)) 0 m.nx.length k)] }) ?_ ?_
 ·refine ⟨_, _, ax [1, 2, 6, 7, 18, 19], 0, Nat.zero_le _, rfl, ?_⟩
  rw [vB, hl]; rfl
 rintro n6 s6 ⟨k, hk, rfl, rfl⟩
 refine ai fun _ k7 => ?_
 refine ak hP hN rfl ?_
 (refine aj rfl fun _ k0 => ?_; simp only [zO, zT, acs, reduceCtorEq, aa, V, ad, ag, af, ae, Mly.av, bu, bC, bp, bz, bv, List.length_set]; (repeat refine an ?_); (try refine .inl ?_); apply k0; clear k0; simp only [zP, V])
 refine am ?_
 apply k7; clear k7; refine kp [1, 2, 6, 7, 18, 19, 20] ?_
 refine ai fun _ k8 => ?_
 refine cd (fun hc9 => ?_) (fun hc9 => ?_)
 ·(try simp only [zB, reduceCtorEq] at hc9)
  refine ay ?_
  apply k8; clear k8; refine kp [1, 2, 6, 7, 18, 19, 20] ?_
  refine ai fun _ k10 => ?_
  refine aB ?_
  refine ai fun _ k11 => ?_
  refine ak hP hN rfl ?_
  iterate 2 (refine aj rfl fun _ k0 => ?_; simp only [zO, zT, acs, reduceCtorEq, aa, V, ad, ag, af, ae, Mly.av, bu, bC, bp, bz, bv, List.length_set]; (repeat refine an ?_); (try refine .inl ?_); apply k0; clear k0; simp only [zP, V])
  refine am ?_
  apply k11; clear k11; refine kp [1, 2, 6, 7, 8, 18, 19, 20] ?_
  refine ai fun _ k12 => ?_
  refine ak hP hN rfl ?_
  (refine aj rfl fun _ k0 => ?_; simp only [zO, zT, acs, reduceCtorEq, aa, V, ad, ag, af, ae, Mly.av, bu, bC, bp, bz, bv, List.length_set]; (repeat refine an ?_); (try refine .inl ?_); apply k0; clear k0; simp only [zP, V])
  refine am ?_
  apply k12; clear k12; refine kp [1, 2, 6, 7, 8, 9, 18, 19, 20] ?_
  refine ai fun _ k13 => ?_
  refine ai fun _ k14 => ?_
  refine ak hP hN rfl ?_
  iterate 3 (refine aj rfl fun _ k0 => ?_; simp only [zO, zT, acs, reduceCtorEq, aa, V, ad, ag, af, ae, Mly.av, bu, bC, bp, bz, bv, List.length_set]; (repeat refine an ?_); (try refine .inl ?_); apply k0; clear k0; simp only [zP, V])
  refine am ?_
  apply k14; clear k14; refine kp [1, 2, 6, 7, 8, 9, 18, 19, 20, 23, 24] ?_
  refine aB ?_
  refine aZ (fun n15 s15 => ∃ (a : Nat), ((a : Int) ≤ m.inp) ∧ n15 = m.inp.toNat - a ∧ s15 = { env := [(1, .one (.list (.int .i64) cl)), (2, .one (.ptr 0 0 0 0)), (6, .one (.mpv 1)), (7, .one (.row 2 0)), (8, .one (.int .i64 (k : Int))), (9, .one (.ptr 3 0 0 0)), (18, .one (.int .i64 (cl.length : Int))), (19, .one (.int .i64 (k : Int))), (23, .one (.int .i64 m.inp)), (24, .one (.int .i64 (a : Int)))], L := [.vars 24 [.int .i64 m.inp, .int .i64 m.st, .list (.list (.int .i64)) m.nx, .list (.list (.int .i64)) m.ot], .mp 157 .int (nu (cY (m.sig cl) k)), .row (.int .i64) 3 0 (jF (fun s => (pos (cY (m.sig cl) m.nx.length) (m.sig cl s) : Int)) 0 m.nx.length k), .vars 159 (eP (m.sigP cl a k))] }) ?_ ?_
  ·refine ⟨_, _, ax [1, 2, 6, 7, 8, 9, 18, 19, 23, 24], 0, by omega, rfl, ?_⟩
   rw [← vo, ← uC]; rfl
  rintro n15 s15 ⟨a, ha, rfl, rfl⟩
  refine ai fun _ k16 => ?_
  refine ak hP hN rfl ?_
  (refine aj rfl fun _ k0 => ?_; simp only [zO, zT, acs, reduceCtorEq, aa, V, ad, ag, af, ae, Mly.av, bu, bC, bp, bz, bv, List.length_set]; (repeat refine an ?_); (try refine .inl ?_); apply k0; clear k0; simp only [zP, V])
  refine am ?_
  apply k16; clear k16; refine kp [1, 2, 6, 7, 8, 9, 18, 19, 23, 24, 25] ?_
  refine ai fun _ k17 => ?_
  refine cd (fun hc18 => ?_) (fun hc18 => ?_)
  ·(try simp only [zB, reduceCtorEq] at hc18)
   refine ay ?_
   apply k17; clear k17; refine kp [1, 2, 6, 7, 8, 9, 18, 19, 23, 24, 25] ?_
   refine ai fun _ k19 => ?_
   refine aB ?_
   refine ai fun _ k20 => ?_
   refine ak hP hN rfl ?_
   iterate 2 (refine aj rfl fun _ k0 => ?_; simp only [zO, zT, acs, reduceCtorEq, aa, V, ad, ag, af, ae, Mly.av, bu, bC, bp, bz, bv, List.length_set]; (repeat refine an ?_); (try refine .inl ?_); apply k0; clear k0; simp only [zP, V])
   refine am ?_
   apply k20; clear k20; refine kp [1, 2, 6, 7, 8, 9, 10, 18, 19, 23, 24, 25] ?_
   refine ai fun _ k21 => ?_
   have hrl := hm.rl k (by omega); have hql := hm.ql k (by omega); have hnr := hm.nr k a (by omega) (by omega); have hw1 : ∀ v, bM (eP (m.sigP cl a k)) a [AC.int .i64 v] = eP ((m.sigP cl a k).set a v) := fun v => kO (by rw [bC]; omega) v; have h64 : ((64 : Int) + (a : Int)).toNat = 64 + a := by omega
   refine ak hP hN rfl ?_
   iterate 11 (refine aj rfl fun _ k0 => ?_; simp only [zE, op1, ev, lkp, cW, bJ, bI, d5, Nat.mul_one, bS, cH, acs, Ty.dflt, zG, bW, cC, Ty.size, ne_eq, not_false_eq_true, Int.natCast_one, Int.mul_one, ep, cj, bq, reduceCtorEq, aa, V, ad, ag, af, ae, Try.ea159, Try.el22, Try.el41, Try.sa159, Try.st24, Try.td159, Try.td22, Try.td24, Try.td3, Try.td41, Mly.av, bu, bC, bp, bz, bv, List.length_set, hw1]; (repeat refine an ?_); (try refine .inl ?_); apply k0; clear k0; simp only [zP, V])
   refine am ?_
   apply k21; clear k21; refine kp [1, 2, 6, 7, 8, 9, 10, 18, 19, 23, 24, 25] ?_
   refine ak hP hN rfl ?_
   iterate 15 (refine aj rfl fun _ k0 => ?_; simp only [zE, op1, ev, lkp, cW, bJ, jm, cU, fE, ic, eT, gC, bI, d5, Nat.mul_one, bS, cH, acs, Ty.dflt, zG, bW, cC, Ty.size, ne_eq, not_false_eq_true, Int.natCast_one, Int.mul_one, ep, cj, bq, reduceCtorEq, aa, V, ad, ag, af, ae, Try.ea159, Try.el22, Try.el41, Try.sa159, Try.st24, Try.td159, Try.td2, Try.td22, Try.td24, Try.td3, Try.td41, Mly.av, bu, bC, bp, bz, bv, List.length_set, hw1, h64]; (repeat refine an ?_); (try refine .inl ?_); apply k0; clear k0; simp only [zP, V])
   refine am ?_
   apply k19; clear k19; refine kp [1, 2, 6, 7, 8, 9, 10, 18, 19, 23, 24, 25] ?_
   refine ak hP hN rfl ?_
   iterate 2 (refine aj rfl fun _ k0 => ?_; simp only [zO, zT, acs, reduceCtorEq, aa, V, ad, ag, af, ae, Mly.av, bu, bC, bp, bz, bv, List.length_set]; (repeat refine an ?_); (try refine .inl ?_); apply k0; clear k0; simp only [zP, V])
   refine am ?_
   refine ⟨_, _, ?_, ax [1, 2, 6, 7, 8, 9, 18, 19, 23, 24], a + 1, by omega, rfl, ?_⟩
   · omega
   · rw [kO (by simp [bC]; omega), xg m cl k (by omega)]; rfl
  (try simp only [zB, reduceCtorEq] at hc18)
  refine aV ?_
  apply k13; clear k13; refine kp [1, 2, 6, 7, 8, 9, 18, 19, 23, 24, 25] ?_
  refine ai fun _ k22 => ?_
  have hkey := x9 hm hr (a := a) (s := k) (by omega) (by omega); have hsg : m.sigP cl a k = m.sig cl k := by unfold Mly.sig; rw [show m.inp.toNat = a by omega]
  rw [hsg] at hkey ⊢; have hdl := mh (m.sig cl) k; have hst : (m.sig cl k).take 128 = m.sig cl k := by rw [← hsg]; exact bz _ _ _ _
  have hsl : (m.sig cl k).length = 128 := by rw [← hsg]; exact bC _ _ _ _
  have hsf := y0 (fun s => (pos (cY (m.sig cl) m.nx.length) (m.sig cl s) : Int)) 0 (n := m.nx.length) (k := k) (by omega)
  refine ak hP hN rfl ?_
  iterate 2 (refine aj rfl fun _ k0 => ?_; simp only [zO, zT, acs, reduceCtorEq, aa, V, ad, ag, af, ae, Mly.av, bu, bC, bp, bz, bv, List.length_set, hst, hsl]; (repeat refine an ?_); (try refine .inl ?_); apply k0; clear k0; simp only [zP, V])
  (refine aj rfl fun _ k0 => ?_; simp only [zE, op1, ev, lkp, cW, bJ, d5, Nat.mul_one, bS, cH, acs, Ty.dflt, zG, bW, jY, bD, VK.ac, i9, reduceCtorEq, aa, V, ad, ag, af, ae, Try.ea159, Try.mk157, Try.sa159, Try.td1, Try.td159, Try.td3, Try.td4, Mly.av, bu, bC, bp, bz, bv, List.length_set, hst, hsl]; (repeat refine an ?_); (try refine .inl ?_); apply k0; clear k0; simp only [zP, V])
  iterate 5 (refine aj rfl fun _ k0 => ?_; simp only [zO, zT, acs, reduceCtorEq, aa, V, ad, ag, af, ae, Mly.av, bu, bC, bp, bz, bv, List.length_set, hst, hsl]; (repeat refine an ?_); (try refine .inl ?_); apply k0; clear k0; simp only [zP, V])
  refine am ?_
  apply k22; clear k22; refine kp [1, 2, 6, 7, 8, 9, 11, 12, 18, 19, 23, 24, 25] ?_
  refine ai fun _ k23 => ?_
  refine ai fun _ k24 => ?_
  refine ak hP hN rfl ?_
  iterate 2 (refine aj rfl fun _ k0 => ?_; simp only [zO, zT, acs, reduceCtorEq, aa, V, ad, ag, af, ae, Mly.av, bu, bC, bp, bz, bv, List.length_set]; (repeat refine an ?_); (try refine .inl ?_); apply k0; clear k0; simp only [zP, V])
  refine am ?_
  apply k24; clear k24; refine kp [1, 2, 6, 7, 8, 9, 11, 12, 18, 19, 23, 24, 25, 59] ?_
  refine cd (fun hc25 => ?_) (fun hc25 => ?_)
  ·(try simp only [zB, reduceCtorEq] at hc25)
   refine ai fun _ k26 => ?_
   refine ak hP hN rfl ?_
   iterate 3 (refine aj rfl fun _ k0 => ?_; simp only [zO, zT, acs, reduceCtorEq, aa, V, ad, ag, af, ae, Mly.av, bu, bC, bp, bz, bv, List.length_set, qK]; (repeat refine an ?_); (try refine .inl ?_); apply k0; clear k0; simp only [zP, V])
   refine am ?_
   apply k26; clear k26; refine kp [1, 2, 6, 7, 8, 9, 11, 12, 18, 19, 23, 24, 25, 59] ?_
   refine ak hP hN rfl ?_
   iterate 3 (refine aj rfl fun _ k0 => ?_; simp only [zO, zT, acs, reduceCtorEq, aa, V, ad, ag, af, ae, Mly.av, bu, bC, bp, bz, bv, List.length_set, hst, hsl]; (repeat refine an ?_); (try refine .inl ?_); apply k0; clear k0; simp only [zP, V])
   (refine aj rfl fun _ k0 => ?_; simp only [zE, op1, ev, lkp, cW, bJ, d5, Nat.mul_one, bS, cH, acs, Ty.dflt, zG, bW, ez, bD, valOf, reduceCtorEq, aa, V, ad, ag, af, ae, Try.ea159, Try.mk157, Try.sa159, Try.td159, Try.td3, Mly.av, bu, bC, bp, bz, bv, List.length_set, hst, hsl]; (repeat refine an ?_); (try refine .inl ?_); apply k0; clear k0; simp only [zP, V])
   refine am ?_
   apply k23; clear k23; refine kp [1, 2, 6, 7, 8, 9, 11, 12, 18, 19, 23, 24, 25, 59] ?_
   refine ak hP hN rfl ?_
   iterate 5 (refine aj rfl fun _ k0 => ?_; simp only [zO, zT, acs, reduceCtorEq, aa, V, ad, ag, af, ae, Mly.av, bu, bC, bp, bz, bv, List.length_set, hsf]; (repeat refine an ?_); (try refine .inl ?_); apply k0; clear k0; simp only [zP, V])
   refine am ?_
   apply k10; clear k10; refine kp [1, 2, 6, 7, 8, 9, 11, 12, 18, 19, 23, 24, 25, 59] ?_
   refine cT [1, 2, 6, 7, 18, 19] ?_; simp only [cq, lkp, zE, reduceCtorEq, aa]
   refine kz 3 rfl ?_; refine cQ (n := 3) (L1 := [_, _, _]) rfl rfl (by rw [hB]; decide) rfl rfl ?_
   refine ak hP hN rfl ?_
   iterate 2 (refine aj rfl fun _ k0 => ?_; simp only [zO, zT, acs, reduceCtorEq, aa, V, ad, ag, af, ae, Mly.av, bu, bC, bp, bz, bv, List.length_set]; (repeat refine an ?_); (try refine .inl ?_); apply k0; clear k0; simp only [zP, V])
   refine am ?_
   first
   | (have hin : m.sig cl k ∈ cY (m.sig cl) k := by
        false_or_by_contra; rename_i hh; rw [fF, if_neg hh] at *; simp_all
      refine ⟨_, _, ?_, ax [1, 2, 6, 7, 18, 19], k + 1, by omega, rfl, ?_⟩
      · omega
      · rw [dj, fW hin, ← kb _ _ (by omega), mQ (by omega) hin, fF, if_pos hin]; rfl)
   | (have hin : m.sig cl k ∉ cY (m.sig cl) k := by
        intro hh; rw [fF, if_pos hh] at *; simp_all
      refine ⟨_, _, ?_, ax [1, 2, 6, 7, 18, 19], k + 1, by omega, rfl, ?_⟩
      · omega
      · rw [dj, eZ hin, ← kb _ _ (by omega), jX (by omega) hin, rT hin]; rfl)
  (try simp only [zB, reduceCtorEq] at hc25)
  refine ay ?_
  apply k23; clear k23; refine kp [1, 2, 6, 7, 8, 9, 11, 12, 18, 19, 23, 24, 25, 59] ?_
  refine ak hP hN rfl ?_
  iterate 5 (refine aj rfl fun _ k0 => ?_; simp only [zO, zT, acs, reduceCtorEq, aa, V, ad, ag, af, ae, Mly.av, bu, bC, bp, bz, bv, List.length_set, hsf]; (repeat refine an ?_); (try refine .inl ?_); apply k0; clear k0; simp only [zP, V])
  refine am ?_
  apply k10; clear k10; refine kp [1, 2, 6, 7, 8, 9, 11, 12, 18, 19, 23, 24, 25, 59] ?_
  refine cT [1, 2, 6, 7, 18, 19] ?_; simp only [cq, lkp, zE, reduceCtorEq, aa]
  refine kz 3 rfl ?_; refine cQ (n := 3) (L1 := [_, _, _]) rfl rfl (by rw [hB]; decide) rfl rfl ?_
  refine ak hP hN rfl ?_
  iterate 2 (refine aj rfl fun _ k0 => ?_; simp only [zO, zT, acs, reduceCtorEq, aa, V, ad, ag, af, ae, Mly.av, bu, bC, bp, bz, bv, List.length_set]; (repeat refine an ?_); (try refine .inl ?_); apply k0; clear k0; simp only [zP, V])
  refine am ?_
  first
  | (have hin : m.sig cl k ∈ cY (m.sig cl) k := by
       false_or_by_contra; rename_i hh; rw [fF, if_neg hh] at *; simp_all
     refine ⟨_, _, ?_, ax [1, 2, 6, 7, 18, 19], k + 1, by omega, rfl, ?_⟩
     · omega
     · rw [dj, fW hin, ← kb _ _ (by omega), mQ (by omega) hin, fF, if_pos hin]; rfl)
  | (have hin : m.sig cl k ∉ cY (m.sig cl) k := by
       intro hh; rw [fF, if_pos hh] at *; simp_all
     refine ⟨_, _, ?_, ax [1, 2, 6, 7, 18, 19], k + 1, by omega, rfl, ?_⟩
     · omega
     · rw [dj, eZ hin, ← kb _ _ (by omega), jX (by omega) hin, rT hin]; rfl)
 (try simp only [zB, reduceCtorEq] at hc9)
 refine aV ?_
 apply k4; clear k4; refine kp [1, 2, 6, 7, 18, 19, 20] ?_
 refine ai fun _ k27 => ?_
 refine ak hP hN rfl ?_
 iterate 5 (refine aj rfl fun _ k0 => ?_; simp only [zO, zT, acs, reduceCtorEq, aa, V, ad, ag, af, ae, Mly.av, bu, bC, bp, bz, bv, List.length_set]; (repeat refine an ?_); (try refine .inl ?_); apply k0; clear k0; simp only [zP, V])
 refine am ?_
 apply k27; clear k27; refine kp [1, 2, 4, 5, 6, 7, 18, 19, 20] ?_
 refine aG ?_
 refine ⟨nr, _, rfl, ?_⟩; simp only [zF, zP, aa, V, Mly.av, bu, bC, bp, bz, bv, List.length_set]
 refine VLE.of_eq ?_
 have hkn : k = m.nx.length := by omega
 subst hkn
 rw [xM, qK]; rfl
end Go.Proofs.Ytoahhklogohehaa
