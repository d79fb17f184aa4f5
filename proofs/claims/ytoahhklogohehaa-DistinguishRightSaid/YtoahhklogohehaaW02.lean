/- Contracts of functions of this seat, each out of a walk through its code, and plain facts on what they compute. Conditions: those that each theorem names. -/
import Derived.Test.YtoahhklogohehaaW01
set_option linter.unusedSimpArgs false
set_option linter.unusedVariables false
set_option maxRecDepth 100000
namespace Go.AV
open Nat renaming reduceEqDiff → aa, reduceAdd → V, reduceLeDiff → ad, reduceLT → ag, reduceMul → af, reduceSub → ae
open List renaming set_cons_zero → cv, set_cons_succ → cq, getD_cons_zero → au, length_append → ar, map_cons → aH, cons_append → aT, map_nil → bm, length_cons → aw, nil_append → bg, take_succ_cons → cQ, length_nil → aG, length_map → aD, length_replicate → bj, take_length → aL, mem_cons_self → aR, mem_cons_of_mem → aJ
open Int renaming toNat_natCast → ah
/-plain-/
def dF (m : Mly) : List Int → List Int → List Int
  | l, [] => l
  | l, a :: w => dF m (cA m l a) w
def chW (m : Mly) : List Int → List Int → Prop
  | _, [] => True
  | l, a :: w => (unS m l a l.length = false ∧ smO m l a l.length = true) ∧ chW m (cA m l a) w
def spW (m : Mly) (l w : List Int) : Prop := ∃ v a, w = v ++ [a] ∧ chW m l v ∧ unS m (dF m l v) a (dF m l v).length = false ∧ smO m (dF m l v) a (dF m l v).length = false
theorem gz {m : Mly} : ∀ {v w l : List Int}, dF m l (v ++ w) = dF m (dF m l v) w
  | [], _, _ => rfl
  | _ :: v, w, _ => gz (v := v) (w := w)
theorem ij {m : Mly} : ∀ {v w l : List Int}, chW m l (v ++ w) ↔ chW m l v ∧ chW m (dF m l v) w
  | [], _, _ => ⟨fun h => ⟨trivial, h⟩, fun h => h.2⟩
  | a :: v, w, l => by
    have ih := ij (m := m) (v := v) (w := w) (l := cA m l a)
    constructor
    · rintro ⟨h1, h2⟩; have h3 := ih.1 h2; exact ⟨⟨h1, h3.1⟩, h3.2⟩
    · rintro ⟨⟨h1, h2⟩, h3⟩; exact ⟨h1, ih.2 ⟨h2, h3⟩⟩
theorem qV (m : Mly) (l : List Int) (a : Int) : dF m l [a] = cA m l a := rfl
theorem tw {m : Mly} {l w : List Int} (h : spW m l w) : w ≠ [] := by
  obtain ⟨v, a, rfl, _⟩ := h; simp
theorem mT {m : Mly} {l w : List Int} {a : Int} : spW m l (a :: w) ↔ unS m l a l.length = false ∧ ((w = [] ∧ smO m l a l.length = false) ∨ (smO m l a l.length = true ∧ spW m (cA m l a) w)) := by
  constructor
  · rintro ⟨v, b, e, h1, h2, h3⟩
    cases v with
    | nil =>
      simp only [bg, List.cons.injEq] at e
      obtain ⟨rfl, rfl⟩ := e
      exact ⟨h2, .inl ⟨rfl, h3⟩⟩
    | cons c v =>
      simp only [aT, List.cons.injEq] at e
      obtain ⟨rfl, rfl⟩ := e
      exact ⟨h1.1.1, .inr ⟨h1.1.2, v, b, rfl, h1.2, h2, h3⟩⟩
  · rintro ⟨h1, ⟨rfl, h2⟩ | ⟨h2, v, b, rfl, h3, h4, h5⟩⟩
    · exact ⟨[], a, rfl, trivial, h1, h2⟩
    · exact ⟨a :: v, b, rfl, ⟨⟨h1, h2⟩, h3⟩, h4, h5⟩
theorem gc {Q : List SS} {s : SS} {i : Nat} (h : i < Q.length) : (Q ++ [s]).getD i ss0 = Q.getD i ss0 := by simp [List.getD, List.getElem?_append_left h]
theorem lj {Q : List SS} {s : SS} : (Q ++ [s]).getD Q.length ss0 = s := by simp [List.getD]
theorem je {Q : List SS} {s : SS} : (Q ++ [s]).length = Q.length + 1 := by simp
structure BFQ (m : Mly) (l : List Int) (Q : List SS) : Prop where
  rt : 0 < Q.length ∧ Q.getD 0 ss0 = (l, [])
  pt : ∀ k, k < Q.length → chW m l (Q.getD k ss0).2 ∧ (Q.getD k ss0).1 = dF m l (Q.getD k ss0).2 ∧ dm m (Q.getD k ss0).2
  mo : ∀ j k, j ≤ k → k < Q.length → (Q.getD j ss0).2.length ≤ (Q.getD k ss0).2.length
  nd : ∀ j k, j < k → k < Q.length → (Q.getD j ss0).1 ≠ (Q.getD k ss0).1
  le : Q.length ≤ 4096
def clQ (m : Mly) (Q : List SS) (j : Nat) (b : Int) : Prop := unS m (Q.getD j ss0).1 b (Q.getD j ss0).1.length = false → smO m (Q.getD j ss0).1 b (Q.getD j ss0).1.length = true ∧ ∃ k, k < Q.length ∧ (Q.getD k ss0).1 = cA m (Q.getD j ss0).1 b ∧ (Q.getD k ss0).2.length ≤ (Q.getD j ss0).2.length + 1
structure BFI (m : Mly) (l : List Int) (i a : Nat) (Q : List SS) : Prop where
  q : BFQ m l Q
  cl : ∀ j, j < i → ∀ b : Nat, b < m.inp.toNat → clQ m Q j b
  pc : ∀ b : Nat, b < a → clQ m Q i b
  up : ∀ k, k < Q.length → i < Q.length → (Q.getD k ss0).2.length ≤ (Q.getD i ss0).2.length + 1
theorem rR {m : Mly} {Q : List SS} {s : SS} {j : Nat} {b : Int} (hj : j < Q.length) (h : clQ m Q j b) : clQ m (Q ++ [s]) j b := by
  unfold clQ at h ⊢
  rw [gc hj]
  intro h1
  obtain ⟨h2, k, h3, h4, h5⟩ := h h1
  exact ⟨h2, k, by rw [je]; omega, by rw [gc h3]; exact h4, by rw [gc h3]; exact h5⟩
theorem tm {m : Mly} {l : List Int} {Q : List SS} (hq : BFQ m l Q) {D : Nat} (hc : ∀ j, j < Q.length → (Q.getD j ss0).2.length < D → ∀ b : Nat, b < m.inp.toNat → clQ m Q j b) :
    ∀ (n : Nat) (v : List Int), v.length = n → n ≤ D → dm m v → chW m l v → ∃ j, j < Q.length ∧ (Q.getD j ss0).1 = dF m l v ∧ (Q.getD j ss0).2.length ≤ n
  | 0, v, hv, _, _, _ => by
    have : v = [] := List.eq_nil_of_length_eq_zero hv
    subst this
    refine ⟨0, hq.rt.1, ?_, ?_⟩
    · rw [hq.rt.2]; rfl
    · rw [hq.rt.2]; exact Nat.le_refl _
  | n + 1, v, hv, hn, hw, hch => by
    have hne : v ≠ [] := fun e => by rw [e] at hv; cases hv
    obtain ⟨u, b, rfl⟩ : ∃ u b, v = u ++ [b] := ⟨v.dropLast, v.getLast hne, (List.dropLast_concat_getLast hne).symm⟩
    rw [ar] at hv
    simp only [aw, aG] at hv
    obtain ⟨h1, h2⟩ := ij.1 hch
    have hb := hw b (by simp)
    obtain ⟨j, j1, j2, j3⟩ := tm hq hc n u (by omega) (by omega) (fun x hx => hw x (List.mem_append_left _ hx)) h1
    have hcl := hc j j1 (by omega) b.toNat (by omega)
    rw [show ((b.toNat : Nat) : Int) = b by omega] at hcl
    unfold clQ at hcl
    rw [j2] at hcl
    obtain ⟨_, k, k1, k2, k3⟩ := hcl h2.1.1
    refine ⟨k, k1, ?_, by omega⟩
    rw [k2, gz, qV]
theorem BFI.clz {m : Mly} {l : List Int} {i a : Nat} {Q : List SS} (h : BFI m l i a Q) (hi : i < Q.length) : ∀ j, j < Q.length → (Q.getD j ss0).2.length < (Q.getD i ss0).2.length → ∀ b : Nat, b < m.inp.toNat → clQ m Q j b := by
  intro j hj hl b hb
  refine h.cl j ?_ b hb
  by_cases e : j < i
  · exact e
  · have := h.q.mo i j (by omega) hj; omega
def BFT (m : Mly) (l : List Int) (i a : Nat) (t : F12) : Prop := match t.res with
  | none => BFI m l i a t.Q ∧ i < t.Q.length
  | some (some w) => spW m l w ∧ ∀ v, dm m v → spW m l v → w.length ≤ v.length
  | some none => BFQ m l t.Q ∧ 4096 ≤ t.Q.length
theorem Af {m : Mly} {l : List Int} {i a : Nat} {Q : List SS} (h : BFI m l i a Q) (hi : i < Q.length) (h1 : unS m (Q.getD i ss0).1 a (Q.getD i ss0).1.length = false) (h2 : smO m (Q.getD i ss0).1 a (Q.getD i ss0).1.length = false) :
    spW m l (ep Q i a) ∧ ∀ v, dm m v → spW m l v → (ep Q i a).length ≤ v.length := by
  obtain ⟨p1, p2, p3⟩ := h.q.pt i hi
  constructor
  · exact ⟨_, _, rfl, p1, by rw [← p2]; exact h1, by rw [← p2]; exact h2⟩
  · rintro v hv ⟨u, b, rfl, s1, s2, s3⟩
    unfold ep
    rw [ar, ar]
    simp only [aw, aG]
    by_cases e : (Q.getD i ss0).2.length ≤ u.length
    · omega
    · exfalso
      have hb := hv b (by simp)
      obtain ⟨j, j1, j2, j3⟩ := tm h.q (h.clz hi) u.length u rfl (by omega) (fun x hx => hv x (List.mem_append_left _ hx)) s1
      have hcl := h.clz hi j j1 (by omega) b.toNat (by omega)
      rw [show ((b.toNat : Nat) : Int) = b by omega] at hcl
      unfold clQ at hcl
      rw [j2] at hcl
      have := (hcl s2).1
      rw [s3] at this; cases this
theorem zr {Q : List SS} {x : List Int} (h : ¬ dX Q x < Q.length) : ∀ k, k < Q.length → (Q.getD k ss0).1 ≠ x := by
  intro k hk e
  have h1 := zk Q x
  rw [decide_eq_false h] at h1
  have : knB Q x Q.length = true := List.any_eq_true.2 ⟨k, List.mem_range.2 hk, by rw [decide_eq_true_eq]; exact e⟩
  rw [h1] at this; cases this
theorem Br {m : Mly} {l : List Int} {i a : Nat} {t : F12} (h : BFT m l i a t) (ha : a < m.inp.toNat) : BFT m l i (a + 1) (dc m i t a) := by
  obtain ⟨Q, res⟩ := t
  cases res with
  | some r =>
    have e : dc m i ⟨Q, some r⟩ a = ⟨Q, some r⟩ := rfl
    rw [e]
    cases r with
    | some w => exact h
    | none => exact h
  | none =>
    obtain ⟨hI, hi⟩ : BFI m l i a Q ∧ i < Q.length := h
    cases hu : unS m (Q.getD i ss0).1 a (Q.getD i ss0).1.length with
    | true =>
      rw [zQ hu]
      refine ⟨⟨hI.q, hI.cl, fun b hb => ?_, hI.up⟩, hi⟩
      by_cases e : b = a
      · subst e; intro h1; rw [hu] at h1; cases h1
      · exact hI.pc b (by omega)
    | false =>
      cases hs : smO m (Q.getD i ss0).1 a (Q.getD i ss0).1.length with
      | false => rw [wH hu hs]; exact Af hI hi hu hs
      | true =>
        by_cases h3 : dX Q (fz m Q i a) < Q.length
        · rw [wM hu hs h3]
          refine ⟨⟨hI.q, hI.cl, fun b hb => ?_, hI.up⟩, hi⟩
          by_cases e : b = a
          · subst e
            intro _
            exact ⟨hs, _, h3, rd h3, hI.up _ h3 hi⟩
          · exact hI.pc b (by omega)
        · by_cases h4 : 4096 ≤ Q.length
          · rw [wL hu hs h3 h4]; exact ⟨hI.q, h4⟩
          · rw [ww hu hs h3 h4]
            obtain ⟨p1, p2, p3⟩ := hI.q.pt i hi
            have hwl : (ep Q i a).length = (Q.getD i ss0).2.length + 1 := by unfold ep; simp
            refine ⟨⟨⟨⟨by rw [je]; omega, by rw [gc hI.q.rt.1]; exact hI.q.rt.2⟩, fun k hk => ?_, fun j k hjk hk => ?_, fun j k hjk hk => ?_, by rw [je]; omega⟩, fun j hj b hb => rR (by omega) (hI.cl j hj b hb), fun b hb => ?_, fun k hk _ => ?_⟩, by rw [je]; omega⟩
            · rw [je] at hk
              by_cases e : k < Q.length
              · rw [gc e]; exact hI.q.pt k e
              · have : k = Q.length := by omega
                subst this
                rw [lj]
                refine ⟨ij.2 ⟨p1, ?_⟩, ?_, ?_⟩
                · rw [← p2]; exact ⟨⟨hu, hs⟩, trivial⟩
                · show fz m Q i a = dF m l (ep Q i a)
                  unfold fz ep
                  rw [gz, qV, ← p2]
                · intro x hx
                  rcases List.mem_append.1 hx with h | h
                  · exact p3 x h
                  · rw [List.mem_singleton] at h; rw [h]; omega
            · rw [je] at hk
              by_cases e : k < Q.length
              · rw [gc e, gc (by omega)]; exact hI.q.mo j k hjk e
              · have : k = Q.length := by omega
                subst this
                rw [lj]
                by_cases e2 : j < Q.length
                · rw [gc e2]
                  show _ ≤ (ep Q i a).length
                  rw [hwl]; exact hI.up j e2 hi
                · rw [show j = Q.length by omega, lj]; exact Nat.le_refl _
            · rw [je] at hk
              by_cases e : k < Q.length
              · rw [gc e, gc (by omega)]; exact hI.q.nd j k hjk e
              · have : k = Q.length := by omega
                subst this
                rw [lj, gc hjk]
                exact zr h3 j hjk
            · by_cases e : b = a
              · subst e
                unfold clQ
                rw [gc hi]
                intro _
                refine ⟨hs, Q.length, by rw [je]; omega, by rw [lj]; rfl, ?_⟩
                rw [lj]
                show (ep Q i b).length ≤ _
                omega
              · exact rR hi (hI.pc b (by omega))
            · rw [je] at hk
              rw [gc hi]
              by_cases e : k < Q.length
              · rw [gc e]; exact hI.up k e hi
              · rw [show k = Q.length by omega, lj]
                show (ep Q i a).length ≤ _
                omega
theorem uJ {m : Mly} {l : List Int} {i : Nat} {t : F12} (h : BFT m l i 0 t) : ∀ k, k ≤ m.inp.toNat → BFT m l i k ((List.range k).foldl (dc m i) t)
  | 0, _ => h
  | k + 1, hk => by
    rw [List.range_succ, List.foldl_append]
    exact Br (uJ h k (by omega)) (by omega)
def BFE (m : Mly) (l : List Int) (r : Option (Option (List Int))) : Prop := match r with
  | none => ∀ v, dm m v → ¬ spW m l v
  | some (some w) => spW m l w ∧ ∀ v, dm m v → spW m l v → w.length ≤ v.length
  | some none => ∃ Q, BFQ m l Q ∧ 4096 ≤ Q.length
theorem wk {m : Mly} {l : List Int} {i a : Nat} {Q : List SS} (h : BFI m l i a Q) (hi : ¬ i < Q.length) : ∀ v, dm m v → ¬ spW m l v := by
  rintro v hv ⟨u, b, rfl, s1, s2, s3⟩
  have hb := hv b (by simp)
  have hc : ∀ j, j < Q.length → (Q.getD j ss0).2.length < u.length + 1 → ∀ b : Nat, b < m.inp.toNat → clQ m Q j b := fun j hj _ b hb => h.cl j (by omega) b hb
  obtain ⟨j, j1, j2, j3⟩ := tm h.q hc u.length u rfl (by omega) (fun x hx => hv x (List.mem_append_left _ hx)) s1
  have hcl := hc j j1 (by omega) b.toNat (by omega)
  rw [show ((b.toNat : Nat) : Int) = b by omega] at hcl
  unfold clQ at hcl
  rw [j2] at hcl
  have := (hcl s2).1
  rw [s3] at this; cases this
theorem A0 {m : Mly} {l : List Int} {i : Nat} {Q : List SS} (h : BFI m l i m.inp.toNat Q) (hi : i < Q.length) : BFI m l (i + 1) 0 Q := by
  refine ⟨h.q, fun j hj b hb => ?_, fun b hb => by omega, fun k hk hi2 => ?_⟩
  · by_cases e : j = i
    · rw [e]; exact h.pc b hb
    · exact h.cl j (by omega) b hb
  · have h1 := h.up k hk hi
    have h2 := h.q.mo i (i + 1) (by omega) hi2
    omega
theorem yy {m : Mly} {l : List Int} : ∀ (f i : Nat) (Q : List SS), 4097 ≤ f + i → BFI m l i 0 Q → BFE m l (gd m f i ⟨Q, none⟩).res
  | 0, i, Q, hf, h => by
    have := h.q.le
    exact wk h (by omega)
  | f + 1, i, Q, hf, h => by
    by_cases hi : i < Q.length
    · rw [pq rfl hi]
      have h1 := uJ (t := ⟨Q, none⟩) (i := i) ⟨h, hi⟩ m.inp.toNat (Nat.le_refl _)
      have e : (List.range m.inp.toNat).foldl (dc m i) ⟨Q, none⟩ = j6 m i ⟨Q, none⟩ := rfl
      rw [e] at h1
      rcases hr : j6 m i ⟨Q, none⟩ with ⟨Q2, r⟩
      rw [hr] at h1
      cases r with
      | none =>
        obtain ⟨h2, h3⟩ : BFI m l i m.inp.toNat Q2 ∧ i < Q2.length := h1
        exact yy f (i + 1) Q2 (by omega) (A0 h2 h3)
      | some r =>
        rw [sA (t := ⟨Q2, some r⟩) rfl]
        cases r with
        | some w => exact h1
        | none => exact ⟨Q2, h1⟩
    · rw [ul hi]; exact wk h hi
theorem zf (m : Mly) (l : List Int) : BFE m l (lI m l) := by
  refine yy 4097 0 [(l, [])] (by omega) ⟨⟨⟨by simp, rfl⟩, fun k hk => ?_, fun j k hjk hk => ?_, fun j k hjk hk => ?_, by simp⟩, fun j hj => by omega, fun b hb => by omega, fun k hk hi => ?_⟩
  · have : k = 0 := by simpa using hk
    subst this; exact ⟨trivial, rfl, fun x hx => by cases hx⟩
  · have : k = 0 := by simpa using hk
    have : j = 0 := by omega
    subst_vars; exact Nat.le_refl _
  · have : k = 0 := by simpa using hk
    omega
  · have : k = 0 := by simpa using hk
    subst this; omega
theorem Au {m : Mly} {l w : List Int} (h : fdW m l = some w) : spW m l w ∧ ∀ v, dm m v → spW m l v → w.length ≤ v.length := by
  have hs := zf m l
  unfold fdW at h
  rcases hr : lI m l with _ | _ | w2
  · rw [hr] at h; cases h
  · rw [hr] at h; cases h
  · rw [hr] at h hs
    have : w2 = w := by simpa using h
    subst this; exact hs
/-plain-/
def nP (l k : List Int) : Prop := ∀ x, x ∈ l ↔ x ∈ k
theorem pz {m : Mly} {l : List Int} {a : Int} (hn : l.Nodup) : unS m l a l.length = true ↔ ∃ s t, s ∈ l ∧ t ∈ l ∧ s ≠ t ∧ clB m a s t = true := by
  unfold unS
  constructor
  · intro h
    obtain ⟨k, hk, h2⟩ := List.any_eq_true.1 h
    obtain ⟨j, hj, h3⟩ := List.any_eq_true.1 h2
    have hk := List.mem_range.1 hk
    have hj := List.mem_range.1 hj
    refine ⟨_, _, bh hk, bh (show j < l.length by omega), fun e => ?_, h3⟩
    have := gP hn hk (by omega) e
    omega
  · rintro ⟨s, t, hs, ht, hne, hc⟩
    obtain ⟨i, hi, rfl⟩ := fF hs
    obtain ⟨j, hj, rfl⟩ := fF ht
    rcases Nat.lt_trichotomy i j with h | h | h
    · refine List.any_eq_true.2 ⟨j, List.mem_range.2 hj, List.any_eq_true.2 ⟨i, List.mem_range.2 h, ?_⟩⟩
      unfold clB at hc ⊢
      simp only [Bool.and_eq_true, decide_eq_true_eq] at hc ⊢
      exact ⟨hc.1.symm, hc.2.symm⟩
    · subst h; exact absurd rfl hne
    · exact List.any_eq_true.2 ⟨i, List.mem_range.2 hi, List.any_eq_true.2 ⟨j, List.mem_range.2 h, hc⟩⟩
theorem uE {m : Mly} {l : List Int} {a : Int} (hn : l.Nodup) (h : unS m l a l.length = false) {s t : Int} (hs : s ∈ l) (ht : t ∈ l) (h1 : m.out s a = m.out t a) (h2 : m.nxt s a = m.nxt t a) : s = t := by
  by_cases e : s = t
  · exact e
  · have := (pz (m := m) (a := a) hn).2 ⟨s, t, hs, ht, e, by unfold clB; rw [decide_eq_true h1, decide_eq_true h2]; rfl⟩
    rw [h] at this; cases this
theorem iV {m : Mly} {l : List Int} {a : Int} : smO m l a l.length = true ↔ ∀ s t, s ∈ l → t ∈ l → m.out s a = m.out t a := by
  unfold smO
  rw [List.all_eq_true]
  constructor
  · intro h s t hs ht
    obtain ⟨i, hi, rfl⟩ := fF hs
    obtain ⟨j, hj, rfl⟩ := fF ht
    have h1 := h i (List.mem_range.2 hi)
    have h2 := h j (List.mem_range.2 hj)
    simp only [decide_eq_true_eq] at h1 h2
    rw [h1, h2]
  · intro h k hk
    have hk := List.mem_range.1 hk
    rw [decide_eq_true_eq]
    exact h _ _ (bh hk) (bh (by omega))
theorem wQ {m : Mly} {l k : List Int} {a : Int} (h : nP l k) (hl : l.Nodup) (hk : k.Nodup) : unS m l a l.length = unS m k a k.length := by
  rw [Bool.eq_iff_iff, pz hl, pz hk]
  constructor
  · rintro ⟨s, t, h1, h2, h3⟩; exact ⟨s, t, (h s).1 h1, (h t).1 h2, h3⟩
  · rintro ⟨s, t, h1, h2, h3⟩; exact ⟨s, t, (h s).2 h1, (h t).2 h2, h3⟩
theorem wR {m : Mly} {l k : List Int} {a : Int} (h : nP l k) : smO m l a l.length = smO m k a k.length := by
  rw [Bool.eq_iff_iff, iV, iV]
  constructor
  · intro g s t h1 h2; exact g s t ((h s).2 h1) ((h t).2 h2)
  · intro g s t h1 h2; exact g s t ((h s).1 h1) ((h t).1 h2)
theorem Bp {m : Mly} {l k : List Int} {a : Int} (h : nP l k) : nP (cA m l a) (cA m k a) := by
  intro x
  unfold cA
  rw [List.mem_map, List.mem_map]
  constructor
  · rintro ⟨y, h1, h2⟩; exact ⟨y, (h y).1 h1, h2⟩
  · rintro ⟨y, h1, h2⟩; exact ⟨y, (h y).2 h1, h2⟩
theorem mP {m : Mly} {l : List Int} {a : Int} (hn : l.Nodup) (h : unS m l a l.length = false) (h2 : smO m l a l.length = true) : (cA m l a).Nodup := by
  unfold cA
  refine List.pairwise_map.2 (List.Pairwise.imp_of_mem (fun {s t} hs ht hne e => hne ?_) hn)
  exact uE hn h hs ht (iV.1 h2 s t hs ht) e
theorem gv {m : Mly} : ∀ {v l : List Int}, l.Nodup → chW m l v → (dF m l v).Nodup
  | [], _, h, _ => h
  | a :: v, l, h, hc => gv (v := v) (mP h hc.1.1 hc.1.2) hc.2
theorem oo {m : Mly} (hm : MOK m) : ∀ {v l : List Int}, dm m v → d7 m l → d7 m (dF m l v)
  | [], _, _, h => h
  | a :: v, l, hw, h => oo hm (v := v) (fun x hx => hw x (aJ _ hx)) (sL hm (hw a (aR ..)) h).1
theorem vu {m : Mly} : ∀ {w l k : List Int}, nP l k → l.Nodup → k.Nodup → spW m l w → spW m k w
  | [], _, _, _, _, _, h => absurd rfl (tw h)
  | a :: w, l, k, h, hl, hk, hs => by
    rw [mT] at hs ⊢
    rw [← wQ h hl hk, ← wR h]
    obtain ⟨h1, h2 | ⟨h2, h3⟩⟩ := hs
    · exact ⟨h1, .inl h2⟩
    · exact ⟨h1, .inr ⟨h2, vu (Bp h) (mP hl h1 h2) (mP hk (by rw [← wQ h hl hk]; exact h1) (by rw [← wR h]; exact h2)) h3⟩⟩
theorem qt {m : Mly} : ∀ {v w l : List Int}, chW m l v → spW m (dF m l v) w → spW m l (v ++ w)
  | [], _, _, _, h => h
  | a :: v, w, l, hc, h => by
    rw [aT, mT]
    exact ⟨hc.1.1, .inr ⟨hc.1.2, qt hc.2 h⟩⟩
def cdN (l : List Int) : Nat → Nat
  | 0 => 0
  | k + 1 => 2 * cdN l k + (if (k : Int) ∈ l then 1 else 0)
theorem sJ (l : List Int) : ∀ k, cdN l k < 2 ^ k
  | 0 => by show 0 < 2 ^ 0; decide
  | k + 1 => by
    have := sJ l k
    rw [cdN, Nat.pow_succ]
    split <;> omega
theorem p9 {l k : List Int} : ∀ n, cdN l n = cdN k n → ∀ i : Nat, i < n → ((i : Int) ∈ l ↔ (i : Int) ∈ k)
  | 0, _, i, h => by omega
  | n + 1, h, i, hi => by
    rw [cdN, cdN] at h
    have h1 : cdN l n = cdN k n := by split at h <;> split at h <;> omega
    by_cases e : i = n
    · subst e
      rw [h1] at h
      by_cases a1 : (i : Int) ∈ l
      · by_cases a2 : (i : Int) ∈ k
        · exact ⟨fun _ => a2, fun _ => a1⟩
        · rw [if_pos a1, if_neg a2] at h; omega
      · by_cases a2 : (i : Int) ∈ k
        · rw [if_neg a1, if_pos a2] at h; omega
        · exact ⟨fun h => absurd h a1, fun h => absurd h a2⟩
    · exact p9 n h1 i (by omega)
theorem wA {n : Nat} {l k : List Int} (hl : ∀ x ∈ l, 0 ≤ x ∧ x < n) (hk : ∀ x ∈ k, 0 ≤ x ∧ x < n) (h : cdN l n = cdN k n) : nP l k := by
  intro x
  constructor
  · intro hx
    have := hl x hx
    have h2 := (p9 n h x.toNat (by omega)).1
    rw [show ((x.toNat : Nat) : Int) = x by omega] at h2
    exact h2 hx
  · intro hx
    have := hk x hx
    have h2 := (p9 n h x.toNat (by omega)).2
    rw [show ((x.toNat : Nat) : Int) = x by omega] at h2
    exact h2 hx
theorem ye {m : Mly} (hm : MOK m) (hn8 : m.nx.length ≤ 8) {l w : List Int} (hn : l.Nodup) (hst : d7 m l) (hw : dm m w) (h : spW m l w) (hmin : ∀ v, dm m v → spW m l v → w.length ≤ v.length) : w.length ≤ 256 := by
  obtain ⟨v, a, rfl, h1, h2, h3⟩ := h
  have hwv : dm m v := fun x hx => hw x (List.mem_append_left _ hx)
  have hsp : ∀ p, spW m (dF m l (v.take p)) (v.drop p ++ [a]) := fun p => by
    have h1' := h1
    rw [← List.take_append_drop p v] at h1'
    have hc := (ij.1 h1').2
    refine ⟨_, _, rfl, hc, ?_, ?_⟩
    · rw [← gz, List.take_append_drop]; exact h2
    · rw [← gz, List.take_append_drop]; exact h3
  have hch : ∀ p, chW m l (v.take p) := fun p => by
    have h1' := h1
    rw [← List.take_append_drop p v] at h1'
    exact (ij.1 h1').1
  have hnd : ((List.range (v.length + 1)).map fun p => (cdN (dF m l (v.take p)) 8 : Int)).Nodup := by
    refine List.pairwise_map.2 (List.Pairwise.imp_of_mem (fun {p q} hp hq hlt e => ?_) (List.pairwise_lt_range (n := v.length + 1)))
    have hp := List.mem_range.1 hp
    have hq := List.mem_range.1 hq
    have st : ∀ p, d7 m (dF m l (v.take p)) := fun p => oo hm (fun x hx => hwv x (List.mem_of_mem_take hx)) hst
    have hse : nP (dF m l (v.take q)) (dF m l (v.take p)) := wA (n := 8) (fun x hx => by have := st q x hx; omega) (fun x hx => by have := st p x hx; omega) (by omega)
    have hs := vu hse (gv hn (hch q)) (gv hn (hch p)) (hsp q)
    have hs2 := qt (hch p) hs
    have := hmin _ (fun x hx => by
      rcases List.mem_append.1 hx with hx | hx
      · exact hwv x (List.mem_of_mem_take hx)
      · rcases List.mem_append.1 hx with hx | hx
        · exact hwv x (List.mem_of_mem_drop hx)
        · exact hw x (by simp at hx; simp [hx])) hs2
    simp only [ar, List.length_take, List.length_drop, aw, aG] at this
    omega
  have := eM 256 _ hnd (fun x hx => by
    obtain ⟨p, _, rfl⟩ := List.mem_map.1 hx
    have := sJ (dF m l (v.take p)) 8
    omega)
  rw [aD, List.length_range] at this
  rw [ar]
  simp only [aw, aG]
  omega
/-plain-/
def qP : Nat → Nat → Nat
  | 0, _ => 0
  | k + 1, c => qP k (c / 2) + c % 2
theorem zm (l : List Int) : ∀ k, qP k (cdN l k) = ((rgI k).filter fun x => decide (x ∈ l)).length
  | 0 => rfl
  | k + 1 => by
    have e : rgI (k + 1) = rgI k ++ [(k : Int)] := by unfold rgI; rw [List.range_succ, List.map_append]; rfl
    rw [e, List.filter_append, ar, ← zm l k]
    show qP k (cdN l (k + 1) / 2) + cdN l (k + 1) % 2 = _
    rw [cdN]
    by_cases h : (k : Int) ∈ l
    · rw [if_pos h, List.filter_cons_of_pos (by simpa using h), show (2 * cdN l k + 1) / 2 = cdN l k by omega, show (2 * cdN l k + 1) % 2 = 1 by omega]; rfl
    · rw [if_neg h, List.filter_cons_of_neg (by simpa using h), show (2 * cdN l k + 0) / 2 = cdN l k by omega, show (2 * cdN l k + 0) % 2 = 0 by omega]; rfl
theorem Aj {l : List Int} {k : Nat} (hn : l.Nodup) (hl : ∀ x ∈ l, 0 ≤ x ∧ x < k) : qP k (cdN l k) = l.length := by
  rw [zm]
  refine Nat.le_antisymm (eu _ _ (List.Pairwise.filter _ (oe k)) fun x hx => ?_) (eu _ _ hn fun x hx => ?_)
  · exact of_decide_eq_true (List.mem_filter.1 hx).2
  · have := hl x hx
    refine List.mem_filter.2 ⟨?_, decide_eq_true hx⟩
    exact List.mem_map.2 ⟨x.toNat, List.mem_range.2 (by omega), by omega⟩
def B8 (k : Nat) : Nat := ((List.range 256).filter fun c => decide (qP 8 c = k)).length
def kQ : Nat → Nat
  | 0 => 0
  | k + 1 => kQ k + B8 (k + 1)
theorem ut {j k : Nat} (h : j ≤ k) : kQ j ≤ kQ k := by
  induction h with
  | refl => exact Nat.le_refl _
  | step h ih => rw [kQ]; omega
theorem BL : kQ 8 = 255 := by decide +kernel
theorem zA {m : Mly} (hm : MOK m) (hn8 : m.nx.length ≤ 8) {l w : List Int} (hn : l.Nodup) (hst : d7 m l) (hw : dm m w) (h : spW m l w) (hmin : ∀ v, dm m v → spW m l v → w.length ≤ v.length) : w.length ≤ B8 l.length := by
  obtain ⟨v, a, rfl, h1, h2, h3⟩ := h
  have hwv : dm m v := fun x hx => hw x (List.mem_append_left _ hx)
  have hsp : ∀ p, spW m (dF m l (v.take p)) (v.drop p ++ [a]) := fun p => by
    have h1' := h1
    rw [← List.take_append_drop p v] at h1'
    have hc := (ij.1 h1').2
    refine ⟨_, _, rfl, hc, ?_, ?_⟩
    · rw [← gz, List.take_append_drop]; exact h2
    · rw [← gz, List.take_append_drop]; exact h3
  have hch : ∀ p, chW m l (v.take p) := fun p => by
    have h1' := h1
    rw [← List.take_append_drop p v] at h1'
    exact (ij.1 h1').1
  have hnd : ((List.range (v.length + 1)).map fun p => (cdN (dF m l (v.take p)) 8 : Int)).Nodup := by
    refine List.pairwise_map.2 (List.Pairwise.imp_of_mem (fun {p q} hp hq hlt e => ?_) (List.pairwise_lt_range (n := v.length + 1)))
    have hp := List.mem_range.1 hp
    have hq := List.mem_range.1 hq
    have st : ∀ p, d7 m (dF m l (v.take p)) := fun p => oo hm (fun x hx => hwv x (List.mem_of_mem_take hx)) hst
    have hse : nP (dF m l (v.take q)) (dF m l (v.take p)) := wA (n := 8) (fun x hx => by have := st q x hx; omega) (fun x hx => by have := st p x hx; omega) (by omega)
    have hs := vu hse (gv hn (hch q)) (gv hn (hch p)) (hsp q)
    have hs2 := qt (hch p) hs
    have := hmin _ (fun x hx => by
      rcases List.mem_append.1 hx with hx | hx
      · exact hwv x (List.mem_of_mem_take hx)
      · rcases List.mem_append.1 hx with hx | hx
        · exact hwv x (List.mem_of_mem_drop hx)
        · exact hw x (by simp at hx; simp [hx])) hs2
    simp only [ar, List.length_take, List.length_drop, aw, aG] at this
    omega
  have hl9 : ∀ (v l : List Int), (dF m l v).length = l.length := by
    intro v
    induction v with
    | nil => intro l; rfl
    | cons x v ih => intro l; show (dF m (cA m l x) v).length = _; rw [ih]; exact aD ..
  have := eu _ (((List.range 256).filter fun c => decide (qP 8 c = l.length)).map fun (c : Nat) => (c : Int)) hnd (fun x hx => by
    obtain ⟨p, _, rfl⟩ := List.mem_map.1 hx
    have h1 := sJ (dF m l (v.take p)) 8
    refine List.mem_map.2 ⟨_, List.mem_filter.2 ⟨List.mem_range.2 (by omega), decide_eq_true ?_⟩, rfl⟩
    have st := oo hm (fun x hx => hwv x (List.mem_of_mem_take hx)) hst (v := v.take p)
    rw [Aj (gv hn (hch p)) (fun x hx => by have := st x hx; omega), hl9])
  rw [aD, List.length_range, aD] at this
  rw [ar]
  simp only [aw, aG]
  exact this
def jC (w : List Int) : Nat := if w = [] then 257 else 514
theorem fx : jC [] = 257 := rfl
theorem fM (a : Int) (w : List Int) : jC (a :: w) = 514 := if_neg (by simp)
theorem ya {m : Mly} {cur : List Int} {a o : Int} (h : ∀ s ∈ cur, m.out s a = o) : ptL m cur a o cur.length = (List.range cur.length).map (fun (q : Nat) => (q : Int)) := by
  unfold ptL
  rw [List.filter_eq_self.2]
  intro q hq
  have := List.mem_range.1 hq
  exact decide_eq_true (h _ (bh (by omega)))
theorem uc (l : List Int) : pkL l ((List.range l.length).map (fun (q : Nat) => (q : Int))) = l := by
  unfold pkL
  rw [List.map_map]
  apply List.ext_getElem (by simp)
  intro i h1 h2
  simp [List.getD, h2]
theorem tU {m : Mly} {ini cur : List Int} {a o : Int} (hil : ini.length = cur.length) (h : ∀ s ∈ cur, m.out s a = o) : cb m ini cur a cur.length o = ini ∧ bE m cur a cur.length o = cA m cur a := by
  unfold cb bE
  rw [ya h]
  refine ⟨?_, ?_⟩
  · rw [← hil]; exact uc ini
  · rw [uc]
theorem xL {xs : List Int} {o : Int} (h0 : 0 < xs.length) (h : ∀ x ∈ xs, x = o) : aF xs = [o] := by
  obtain ⟨h1, h2⟩ := du xs
  have hm : ∀ x ∈ aF xs, x = o := fun x hx => h x ((h2 x).1 hx)
  have ho : o ∈ aF xs := by
    have h9 : xs.getD 0 0 ∈ xs := bh h0
    rw [h2, ← h _ h9]; exact h9
  match hu : aF xs with
  | [] => rw [hu] at ho; cases ho
  | [x] => rw [hm x (by rw [hu]; simp)]
  | x :: y :: r =>
    have e1 := hm x (by rw [hu]; simp)
    have e2 := hm y (by rw [hu]; simp)
    rw [hu] at h1
    have := (List.pairwise_cons.1 h1).1 y (by simp)
    omega
theorem oF {m : Mly} {cur : List Int} {a : Int} (h : smO m cur a cur.length = false) : 2 ≤ (aF (ouL m cur a)).length := by
  refine Classical.byContradiction fun hn => ?_
  have h9 : smO m cur a cur.length = true := iV.2 fun s t hs ht => by
    have h2 := (du (ouL m cur a)).2
    have ms : m.out s a ∈ aF (ouL m cur a) := (h2 _).2 (List.mem_map.2 ⟨s, hs, rfl⟩)
    have mt : m.out t a ∈ aF (ouL m cur a) := (h2 _).2 (List.mem_map.2 ⟨t, ht, rfl⟩)
    match hu : aF (ouL m cur a) with
    | [] => rw [hu] at ms; cases ms
    | [x] =>
      rw [hu, List.mem_singleton] at ms mt
      rw [ms, mt]
    | x :: y :: r => rw [hu] at hn; simp only [aw] at hn; omega
  rw [h] at h9; cases h9
theorem y8 {m : Mly} {cur : List Int} {a o : Int} (hn : cur.Nodup) (h : unS m cur a cur.length = false) : (bE m cur a cur.length o).Nodup := by
  unfold bE cA pkL ptL
  rw [List.map_map, List.map_map]
  refine List.pairwise_map.2 ?_
  have h0 : ((List.range cur.length).filter (fun (q : Nat) => decide (m.out (cur.getD q 0) a = o))).Nodup := List.Pairwise.filter _ List.nodup_range
  refine List.Pairwise.imp_of_mem (fun {p q} hp hq hne e => hne ?_) h0
  obtain ⟨p1, p2⟩ := List.mem_filter.1 hp
  obtain ⟨q1, q2⟩ := List.mem_filter.1 hq
  have p1 := List.mem_range.1 p1
  have q1 := List.mem_range.1 q1
  have p2 := of_decide_eq_true p2
  have q2 := of_decide_eq_true q2
  simp only [Function.comp, ah] at e
  exact gP hn p1 q1 (uE hn h (bh p1) (bh q1) (by rw [p2, q2]) e)
theorem tN {m : Mly} {cur : List Int} {a o : Int} : ∀ i, i ≤ cur.length → (ptL m cur a o i).length = (ouL m (cur.take i) a).count o
  | 0, _ => rfl
  | i + 1, h => by
    have ih := tN (m := m) (cur := cur) (a := a) (o := o) i (by omega)
    rw [sw (by omega), List.count_append, ← ih]
    by_cases e : m.out (cur.getD i 0) a = o
    · rw [uK e, ar, e]; simp
    · rw [wP e, List.count_cons_of_ne e]; simp
theorem x4 {m : Mly} {cur : List Int} {a o : Int} : (bE m cur a cur.length o).length = (ouL m cur a).count o := by
  have h := tN (m := m) (cur := cur) (a := a) (o := o) cur.length (Nat.le_refl _)
  rw [aL] at h
  unfold bE cA pkL
  rw [aD, aD, h]
def fy (ys ks : List Int) : Nat := (ks.map fun o => ys.count o).sum
theorem r0 (ys k1 k2 : List Int) : fy ys (k1 ++ k2) = fy ys k1 + fy ys k2 := by unfold fy; rw [List.map_append, List.sum_append]
theorem y6 (ks : List Int) : fy [] ks = 0 := by
  induction ks with
  | nil => rfl
  | cons k ks ih => unfold fy at ih ⊢; rw [aH, List.sum_cons, ih]; rfl
theorem rW {y : Int} {ys : List Int} : ∀ {ks : List Int}, y ∉ ks → fy (y :: ys) ks = fy ys ks
  | [], _ => rfl
  | k :: ks, h => by
    have ih := rW (ys := ys) (ks := ks) (fun h9 => h (aJ _ h9))
    unfold fy at ih ⊢
    rw [aH, List.sum_cons, aH, List.sum_cons, ih, List.count_cons_of_ne (fun e => h (by rw [e]; exact aR ..))]
theorem uA {y : Int} {ys : List Int} : ∀ {ks : List Int}, ks.Nodup → y ∈ ks → fy (y :: ys) ks = fy ys ks + 1
  | k :: ks, hn, h => by
    obtain ⟨h1, h2⟩ := List.nodup_cons.1 hn
    by_cases e : y = k
    · subst e
      have := rW (ys := ys) h1
      unfold fy at this ⊢
      rw [aH, List.sum_cons, aH, List.sum_cons, this, List.count_cons_self]; omega
    · have ih := uA (ys := ys) h2 ((List.mem_cons.1 h).resolve_left e)
      unfold fy at ih ⊢
      rw [aH, List.sum_cons, aH, List.sum_cons, ih, List.count_cons_of_ne e]; omega
theorem qZ {ks : List Int} (hn : ks.Nodup) : ∀ {ys : List Int}, (∀ y ∈ ys, y ∈ ks) → fy ys ks = ys.length
  | [], _ => y6 ks
  | y :: ys, h => by
    rw [uA hn (h y (aR ..)), qZ hn fun z hz => h z (aJ _ hz)]; rfl
theorem pI {ys : List Int} : ∀ {ks : List Int}, (∀ k ∈ ks, k ∈ ys) → ks.length ≤ fy ys ks
  | [], _ => Nat.zero_le _
  | k :: ks, h => by
    have ih := pI (ys := ys) (ks := ks) fun z hz => h z (aJ _ hz)
    have := List.count_pos_iff.2 (h k (aR ..))
    unfold fy at ih ⊢
    rw [aH, List.sum_cons, aw]; omega
theorem qp {ys ks : List Int} {i : Nat} (h : i < ks.length) : fy ys (ks.take (i + 1)) = fy ys (ks.take i) + ys.count (ks.getD i 0) := by
  rw [cR h, r0]
  show _ + (([_] : List Int).map _).sum = _
  simp
def kP (T : List ba) (n : Nat) (D : List ba) : Prop := ∀ i, i < D.length → T[n + i]? = D[i]?
theorem x6 {T : List ba} {n : Nat} {D E : List ba} (h : kP T n (D ++ E)) : kP T n D := fun i hi => by
  rw [h i (by rw [ar]; omega), List.getElem?_append_left hi]
theorem x0 {T : List ba} {n : Nat} {D E : List ba} (h : kP T n (D ++ E)) : kP T (n + D.length) E := fun i hi => by
  have h1 := h (D.length + i) (by rw [ar]; omega)
  rw [List.getElem?_append_right (by omega), show D.length + i - D.length = i by omega] at h1
  rw [← h1]; congr 1; omega
theorem ow {T : List ba} {n : Nat} {x : ba} {D : List ba} (h : kP T n (x :: D)) : n < T.length ∧ T.getD n nd0 = x ∧ kP T (n + 1) D := by
  have h0 := h 0 (by simp)
  rw [Nat.add_zero, List.getElem?_cons_zero] at h0
  refine ⟨(List.getElem?_eq_some_iff.1 h0).1, by rw [List.getD, h0]; rfl, fun i hi => ?_⟩
  have h1 := h (i + 1) (by simp only [aw]; omega)
  rw [List.getElem?_cons_succ] at h1
  rw [← h1]; congr 1; omega
def wN (m : Mly) (x : ba) : Prop := x.2.1 = -1 → x.1.length = 1 ∨ ∃ c, d7 m c ∧ c.Nodup ∧ 2 ≤ c.length ∧ fdW m c = none
structure GOK (m : Mly) (ini cur w : List Int) (n : Nat) (D : List ba) : Prop where
  len : D.length + jC w ≤ w.length + 258 * cur.length
  rt : ∀ (T : List ba) (g : Nat), kP T n D → T.length + 1 ≤ g + n → rtF m T g n ini cur = some (n + D.length)
  lf : ∀ x ∈ D, wN m x
  dw : ∀ (T : List ba), kP T n D → ∀ (f : Nat) (s : Int), s ∈ cur → (wdG m T f n s).1.length ≤ w.length + kQ (cur.length - if w = [] then 0 else 1)
structure FOK (m : Mly) (ini cur : List Int) (a : Int) (w : List Int) (n i : Nat) (t : List ba × List dM) : Prop where
  len : t.1.length + jC w * i ≤ w.length * i + 258 * fy (ouL m cur a) ((aF (ouL m cur a)).take i)
  kl : t.2.length = i
  lf : ∀ x ∈ t.1, wN m x
  rt : ∀ (T : List ba) (g : Nat), kP T (n + 1) t.1 → T.length + 1 ≤ g + (n + 1) → ∀ x : ba, x.2.1 = a → (∀ j, j < i → x.2.2.1.getD j kd0 = t.2.getD j kd0) → (List.range i).foldl (fc m (rtF m T g) ini cur x) (some (n + 1)) = some (n + 1 + t.1.length)
  dw : ∀ (T : List ba), kP T (n + 1) t.1 → ∀ j, j < i → ∃ e : Nat, t.2.getD j kd0 = ((aF (ouL m cur a)).getD j 0, (e : Int), ()) ∧ ∀ (f : Nat) (s : Int), s ∈ bE m cur a cur.length ((aF (ouL m cur a)).getD j 0) → (wdG m T f e s).1.length ≤ w.length + kQ ((bE m cur a cur.length ((aF (ouL m cur a)).getD j 0)).length - if w = [] then 0 else 1)
theorem A7 {K : List dM} {k : dM} {j : Nat} (h : j < K.length) : (K ++ [k]).getD j kd0 = K.getD j kd0 := by simp [List.getD, List.getElem?_append_left h]
theorem A4 {K : List dM} {k : dM} : (K ++ [k]).getD K.length kd0 = k := by simp [List.getD]
theorem ll {m : Mly} {ini cur w : List Int} {a : Int} {n : Nat} {rec : List Int → List Int → Nat → List ba}
    (hr : ∀ o ∈ aF (ouL m cur a), ∀ k, n + 1 ≤ k → k + w.length + 258 * (bE m cur a cur.length o).length ≤ 4096 + jC w → GOK m (cb m ini cur a cur.length o) (bE m cur a cur.length o) w k (rec (cb m ini cur a cur.length o) (bE m cur a cur.length o) k))
    (hB : ∀ i, i < (aF (ouL m cur a)).length → n + 1 + w.length * (i + 1) + 258 * fy (ouL m cur a) ((aF (ouL m cur a)).take (i + 1)) ≤ 4096 + jC w * (i + 1))
    (hC : ∀ o ∈ aF (ouL m cur a), jC w ≤ w.length + 258 * (bE m cur a cur.length o).length) : ∀ i, i ≤ (aF (ouL m cur a)).length → FOK m ini cur a w n i (((aF (ouL m cur a)).take i).foldl (dB n rec m ini cur a) ([], []))
  | 0, _ => ⟨by simp, rfl, fun x hx => (by cases hx), fun T g _ _ x _ _ => rfl, fun T _ j hj => by omega⟩
  | i + 1, hi => by
    have ih := ll hr hB hC i (by omega)
    have ho : (aF (ouL m cur a)).getD i 0 ∈ aF (ouL m cur a) := bh (by omega)
    have hb := hB i (by omega)
    have hc := hC _ ho
    have hcs := qp (ys := ouL m cur a) (ks := aF (ouL m cur a)) (i := i) (by omega)
    rw [← x4] at hcs
    rcases ht : ((aF (ouL m cur a)).take i).foldl (dB n rec m ini cur a) ([], []) with ⟨D, K⟩
    rw [ht] at ih
    obtain ⟨i1, i2, i3, i4, i5⟩ := ih
    simp only at i1 i2 i3 i4 i5
    rw [hcs, Nat.mul_succ, Nat.mul_succ] at hb
    have hk : n + 1 + D.length + w.length + 258 * (bE m cur a cur.length ((aF (ouL m cur a)).getD i 0)).length ≤ 4096 + jC w := by omega
    have hg := hr _ ho (n + 1 + D.length) (by omega) hk
    rw [mV (by omega) ht (by omega)]
    obtain ⟨g1, g2, g3, g4⟩ := hg
    refine ⟨?_, by simp [i2], fun x hx => ?_, fun T g hT hg x hx hK => ?_, fun T hT j hj => ?_⟩
    · show (D ++ _).length + _ ≤ _
      rw [hcs, ar, Nat.mul_succ, Nat.mul_succ]
      omega
    · rcases List.mem_append.1 hx with h | h
      · exact i3 x h
      · exact g3 x h
    · have hT1 := x6 hT
      have hT2 := x0 hT
      have h1 := i4 T g hT1 hg x hx (fun j hj => by rw [hK j (by omega)]; exact A7 (by omega))
      have h2 := hK i (by omega)
      have h3 : (K ++ [((aF (ouL m cur a)).getD i 0, ((n + 1 + D.length : Nat) : Int), ())]).getD i kd0 = ((aF (ouL m cur a)).getD i 0, ((n + 1 + D.length : Nat) : Int), ()) := by rw [← i2]; exact A4
      have h4 : x.2.2.1.getD i kd0 = ((aF (ouL m cur a)).getD i 0, ((n + 1 + D.length : Nat) : Int), ()) := h2.trans h3
      refine qo h1 ?_
      rw [kD (by rw [h4, hx]; exact ⟨rfl, rfl⟩), hx, g2 T g hT2 (by omega)]
      congr 1
      show _ = n + 1 + (D ++ _).length
      rw [ar]; omega
    · by_cases e : j = i
      · subst e
        refine ⟨n + 1 + D.length, ?_, fun f s hs => g4 T (x0 hT) f s hs⟩
        show (K ++ [_]).getD j kd0 = _
        rw [← i2]; exact A4
      · obtain ⟨e9, e1, e2⟩ := i5 T (x6 hT) j (by omega)
        refine ⟨e9, ?_, e2⟩
        show (K ++ [_]).getD j kd0 = _
        rw [A7 (by omega)]; exact e1
theorem r8 (m : Mly) : ∀ (v l : List Int), (dF m l v).length = l.length
  | [], _ => rfl
  | x :: v, l => by show (dF m (cA m l x) v).length = _; rw [r8 m v]; exact aD ..
theorem tB {m : Mly} {l w : List Int} (h : spW m l w) : 2 ≤ l.length := by
  refine Classical.byContradiction fun h9 => ?_
  obtain ⟨v, c, _, hc1, _, hc3⟩ := h
  have h4 : smO m (dF m l v) c (dF m l v).length = true := iV.2 fun s t hs9 ht9 => by
    have e9 : (dF m l v).length ≤ 1 := by rw [r8]; omega
    match hq : dF m l v with
    | [] => rw [hq] at hs9; cases hs9
    | [x] => rw [hq, List.mem_singleton] at hs9 ht9; rw [hs9, ht9]
    | x :: y :: r => rw [hq] at e9; simp at e9
  rw [hc3] at h4; cases h4
theorem pj {m : Mly} (hm : MOK m) {f : Nat} (IH : ∀ (ini cur w : List Int) (n : Nat), 4098 ≤ f + n → d7 m cur → cur.Nodup → ini.length = cur.length → 0 < cur.length → dm m w → (w ≠ [] → spW m cur w) → n + w.length + 258 * cur.length ≤ 4096 + jC w → GOK m ini cur w n (cu m f ini cur w n))
    {ini cur w0 w2 : List Int} {a : Int} {n : Nat} (hgw : gm m ini cur w0 = a :: w2) (hf : 4098 ≤ f + 1 + n) (hst : d7 m cur) (hn : cur.Nodup) (hil : ini.length = cur.length) (h0 : 0 < cur.length) (hw : dm m (a :: w2)) (hs : spW m cur (a :: w2)) (hb : n + (a :: w2).length + 258 * cur.length ≤ 4096 + 514) :
    GOK m ini cur (a :: w2) n (cu m (f + 1) ini cur w0 n) := by
  have ha := hw a (aR ..)
  have hw2 : dm m w2 := fun x hx => hw x (aJ _ hx)
  obtain ⟨hu, hs2⟩ := mT.1 hs
  have hol : (ouL m cur a).length = cur.length := aD ..
  obtain ⟨u1, u2⟩ := du (ouL m cur a)
  have und : (aF (ouL m cur a)).Nodup := u1.imp fun h e => by omega
  have hcall : fy (ouL m cur a) (aF (ouL m cur a)) = cur.length := by rw [qZ und fun y hy => (u2 y).2 hy, hol]
  have hge : ∀ i, i ≤ (aF (ouL m cur a)).length → fy (ouL m cur a) ((aF (ouL m cur a)).take i) + ((aF (ouL m cur a)).length - i) ≤ cur.length := fun i hi => by
    have h1 := r0 (ouL m cur a) ((aF (ouL m cur a)).take i) ((aF (ouL m cur a)).drop i)
    rw [List.take_append_drop, hcall] at h1
    have h2 := pI (ys := ouL m cur a) (ks := (aF (ouL m cur a)).drop i) fun k hk => (u2 k).1 (List.mem_of_mem_drop hk)
    rw [List.length_drop] at h2
    omega
  have hrec : ∀ o ∈ aF (ouL m cur a), (w2 ≠ [] → spW m (bE m cur a cur.length o) w2) → ∀ k, n + 1 ≤ k → k + w2.length + 258 * (bE m cur a cur.length o).length ≤ 4096 + jC w2 → GOK m (cb m ini cur a cur.length o) (bE m cur a cur.length o) w2 k (cu m f (cb m ini cur a cur.length o) (bE m cur a cur.length o) w2 k) := fun o ho hsp k hk hkb =>
    IH _ _ w2 k (by omega) (jy hm ha hst) (y8 hn hu) (fk ..) (me ho) hw2 hsp hkb
  have hfull : FOK m ini cur a w2 n (aF (ouL m cur a)).length (((aF (ouL m cur a)).take (aF (ouL m cur a)).length).foldl (dB n (fun i c k => cu m f i c w2 k) m ini cur a) ([], [])) ∧ jC w2 * (aF (ouL m cur a)).length + w2.length ≥ 514 + w2.length * (aF (ouL m cur a)).length := by
    rcases hs2 with ⟨rfl, h2⟩ | ⟨h2, h3⟩
    · have hr2 := oF h2
      refine ⟨ll (fun o ho => hrec o ho fun h => absurd rfl h) (fun i hi => ?_) (fun o ho => ?_) _ (Nat.le_refl _), ?_⟩
      · have := hge (i + 1) (by omega)
        rw [fx]
        simp only [aw, aG] at hb ⊢
        by_cases e : i = 0
        · subst e; omega
        · omega
      · have := me ho
        rw [fx]; simp only [aG]; omega
      · rw [fx]; simp only [aG]; omega
    · cases w2 with
      | nil => exact absurd rfl (tw h3)
      | cons b w3 =>
        have hall : ∀ s ∈ cur, m.out s a = m.out (cur.getD 0 0) a := fun s hs9 => iV.1 h2 _ _ hs9 (bh h0)
        have huo : aF (ouL m cur a) = [m.out (cur.getD 0 0) a] := xL (by omega) fun x hx => by
          obtain ⟨s, hs9, rfl⟩ := List.mem_map.1 hx
          exact hall s hs9
        have hgc := (tU hil hall).2
        have hlen : (cA m cur a).length = cur.length := aD ..
        have h2c : 2 ≤ (cA m cur a).length := tB h3
        have hcnt := hge 1 (by rw [huo]; simp)
        refine ⟨ll (fun o ho => hrec o ho fun _ => ?_) (fun i hi => ?_) (fun o ho => ?_) _ (Nat.le_refl _), ?_⟩
        · rw [huo, List.mem_singleton] at ho
          rw [ho, hgc]; exact h3
        · rw [huo] at hi hcnt ⊢
          simp only [aw, aG] at hi hb hcnt
          have : i = 0 := by omega
          subst this
          rw [fM]
          simp only [aw, Nat.zero_add, Nat.mul_one]
          omega
        · rw [huo, List.mem_singleton] at ho
          rw [ho, hgc, fM]; simp only [aw]; omega
        · rw [huo, fM]; simp only [aw, aG]; omega
  rw [aL] at hfull
  obtain ⟨⟨f1, f2, f3, f4, f6⟩, f5⟩ := hfull
  rw [aL, hcall] at f1
  have hn4 : ¬ 4096 < n + 1 := by simp only [aw] at hb; omega
  rw [cW hn4 hgw]
  rcases ht : (aF (ouL m cur a)).foldl (dB n (fun i c k => cu m f i c w2 k) m ini cur a) ([], []) with ⟨D, K⟩
  rw [ht] at f1 f2 f3 f4 f6
  simp only at f1 f2 f3 f4 f6 ⊢
  have hdn : ∀ o ∈ aF (ouL m cur a), w2.length + kQ ((bE m cur a cur.length o).length - if w2 = [] then 0 else 1) ≤ w2.length + kQ (cur.length - 1) := fun o ho => by
    obtain ⟨q, hq, eq⟩ := fF ho
    have h1 := hge (q + 1) (by omega)
    have h2 := qp (ys := ouL m cur a) (ks := aF (ouL m cur a)) hq
    rw [eq, ← x4] at h2
    have h4 := pI (ys := ouL m cur a) (ks := (aF (ouL m cur a)).take q) fun k hk => (u2 k).1 (List.mem_of_mem_take hk)
    rw [List.length_take] at h4
    refine Nat.add_le_add_left (ut ?_) _
    rcases hs2 with ⟨rfl, h3⟩ | ⟨h3, h5⟩
    · have h9 := oF h3
      rw [if_pos rfl]
      by_cases e : q = 0
      · omega
      · omega
    · rw [if_neg (tw h5)]
      omega
  refine ⟨?_, fun T g hT hg => ?_, fun x hx => ?_, fun T hT f9 s hs9 => ?_⟩
  · rw [fM]; simp only [aw] at f5 ⊢; omega
  · obtain ⟨c1, c2, c3⟩ := ow hT
    obtain ⟨g, rfl⟩ : ∃ g9, g = g9 + 1 := ⟨g - 1, by omega⟩
    have e1 : (T.getD n nd0).1 = ini := by rw [c2]
    have e2 : (T.getD n nd0).2.1 = a := by rw [c2]
    have e3 : (T.getD n nd0).2.2.1 = K := by rw [c2]
    rw [mE ⟨c1, e1, hn⟩ (by rw [e2]; omega) (by rw [e2, e3]; exact ⟨ha.1, ha.2, f2.symm⟩), e3, f2]
    rw [f4 T g c3 (by omega) _ e2 (fun j _ => by rw [e3])]
    congr 1
    simp only [aw]; omega
  · rcases List.mem_cons.1 hx with h | h
    · rw [h]; intro h9
      have h8 : a = -1 := h9
      omega
    · exact f3 x h
  · obtain ⟨c1, c2, c3⟩ := ow hT
    have e2 : (T.getD n nd0).2.1 = a := by rw [c2]
    have e3 : (T.getD n nd0).2.2.1 = K := by rw [c2]
    rw [if_neg (by simp)]
    cases f9 with
    | zero => exact Nat.zero_le _
    | succ f9 =>
      have hin : m.out s a ∈ aF (ouL m cur a) := (u2 _).2 (List.mem_map.2 ⟨s, hs9, rfl⟩)
      obtain ⟨e, q1, q2⟩ := f6 T c3 _ (gD hin)
      have hgp := ju hin
      rw [hgp] at q1 q2
      have hk : kTo K (m.out s a) = (e : Int) := by
        rw [oq (i := pos (aF (ouL m cur a)) (m.out s a)) (by rw [f2]; exact gD hin) (by rw [q1]) fun j hj h9 => ?_, q1]
        have hjl := gD hin
        obtain ⟨e8, r1, _⟩ := f6 T c3 j (by omega)
        rw [r1] at h9
        have h8 : (aF (ouL m cur a)).getD j 0 = m.out s a := h9
        have e1 : (aF (ouL m cur a)).getD j 0 = (aF (ouL m cur a))[j]'(by omega) := jb (by omega)
        have e2 : (aF (ouL m cur a)).getD (pos (aF (ouL m cur a)) (m.out s a)) 0 = (aF (ouL m cur a))[pos (aF (ouL m cur a)) (m.out s a)]'hjl := jb hjl
        have := List.pairwise_iff_getElem.1 u1 _ _ (by omega) hjl hj
        omega
      rw [j5 (by rw [e2]; omega), e2, e3, hk, ah]
      have h1 := q2 f9 (m.nxt s a) (zd hs9)
      have h2 := hdn _ hin
      simp only [aw]
      omega
theorem pN {m : Mly} {ini cur : List Int} {n : Nat} (hn : cur.Nodup) (h0 : 0 < cur.length) (hl : wN m (ini, -1, [], ())) : GOK m ini cur [] n [(ini, -1, [], ())] := by
  refine ⟨by rw [fx]; simp only [aw, aG]; omega, fun T g hT hg => ?_, fun x hx => ?_, fun T hT f s _ => ?_⟩
  · obtain ⟨c1, c2, _⟩ := ow hT
    obtain ⟨g, rfl⟩ : ∃ g9, g = g9 + 1 := ⟨g - 1, by omega⟩
    have e1 : (T.getD n nd0).1 = ini := by rw [c2]
    have e2 : (T.getD n nd0).2.1 = -1 := by rw [c2]
    have e3 : (T.getD n nd0).2.2.1 = [] := by rw [c2]
    rw [dx ⟨c1, e1, hn⟩ e2, e3]; rfl
  · rw [List.mem_singleton] at hx; rw [hx]; exact hl
  · obtain ⟨_, c2, _⟩ := ow hT
    rw [kd (by rw [c2]; show (-1 : Int) < 0; decide)]; exact Nat.zero_le _
theorem qk {m : Mly} (hm : MOK m) (n8 : m.nx.length ≤ 8) : ∀ (f : Nat) (ini cur w : List Int) (n : Nat), 4098 ≤ f + n → d7 m cur → cur.Nodup → ini.length = cur.length → 0 < cur.length → dm m w → (w ≠ [] → spW m cur w) → n + w.length + 258 * cur.length ≤ 4096 + jC w → GOK m ini cur w n (cu m f ini cur w n)
  | 0, ini, cur, w, n, hf, hst, hn, hil, h0, hw, hs, hb => by
    exfalso
    cases w with
    | nil => rw [fx] at hb; simp only [aG] at hb; omega
    | cons a w => have h9 := tB (hs (by simp)); rw [fM] at hb; simp only [aw] at hb; omega
  | f + 1, ini, cur, w, n, hf, hst, hn, hil, h0, hw, hs, hb => by
    cases w with
    | cons a w => exact pj hm (qk hm n8 f) (if_neg (by simp)) hf hst hn hil h0 hw (hs (by simp)) (by rw [fM] at hb; exact hb)
    | nil =>
      rw [fx] at hb
      simp only [aG] at hb
      by_cases h1 : 1 < ini.length
      · have hg : gm m ini cur [] = (fdW m cur).getD [] := if_pos ⟨rfl, h1⟩
        obtain ⟨q1, q2⟩ := vj m cur
        cases hq : (fdW m cur).getD [] with
        | nil =>
          rw [eF (by omega) (hg.trans hq)]
          exact pN hn h0 fun _ => .inr ⟨cur, hst, hn, by omega, q2 hq⟩
        | cons a w =>
          have hfd : fdW m cur = some (a :: w) := by
            cases h9 : fdW m cur with
            | none => rw [h9] at hq; cases hq
            | some v => rw [h9] at hq; have : v = a :: w := hq; rw [this]
          obtain ⟨s1, s2⟩ := Au hfd
          rw [hq] at q1
          have s3 := ye hm n8 hn hst q1 s1 s2
          have s4 := zA hm n8 hn hst q1 s1 s2
          obtain ⟨g1, g2, g3, g4⟩ := pj hm (qk hm n8 f) (hg.trans hq) hf hst hn hil h0 q1 s1 (by omega)
          refine ⟨?_, g2, g3, fun T hT f s hs => ?_⟩
          · rw [fM] at g1
            rw [fx]; simp only [aG]; omega
          · have h9 := g4 T hT f s hs
            rw [if_neg (by simp)] at h9
            rw [if_pos rfl]
            obtain ⟨k, hk⟩ : ∃ k, cur.length = k + 1 := ⟨cur.length - 1, by omega⟩
            rw [hk] at s4 h9 ⊢
            rw [Nat.sub_zero, kQ]
            simp only [aw, aG, Nat.add_sub_cancel] at s4 h9 ⊢
            omega
      · have hg : gm m ini cur [] = [] := if_neg fun h => h1 h.2
        rw [eF (by omega) hg]
        exact pN hn h0 fun _ => .inl (by show ini.length = 1; omega)
def cG (m : Mly) : List ba := cu m 4098 (rgI m.nx.length) (rgI m.nx.length) [] 0
theorem iX {m : Mly} (hm : MOK m) (n8 : m.nx.length ≤ 8) : (cG m).length ≤ 2064 ∧ rtF m (cG m) ((cG m).length + 1) 0 (rgI m.nx.length) (rgI m.nx.length) = some (cG m).length ∧ (∀ x ∈ cG m, wN m x) ∧ ∀ (f : Nat) (s : Int), 0 ≤ s → s < m.nx.length → (wdG m (cG m) f 0 s).1.length ≤ 255 := by
  have hn1 := hm.n1
  obtain ⟨g1, g2, g3, g4⟩ := qk hm n8 4098 (rgI m.nx.length) (rgI m.nx.length) [] 0 (by omega) (kA m) (oe _) rfl (by rw [d5]; omega) (fun x hx => by cases hx) (fun h => absurd rfl h) (by rw [d5, fx]; simp only [aG]; omega)
  rw [d5, fx] at g1
  simp only [aG] at g1
  refine ⟨?_, ?_, g3, fun f s h0 h1 => ?_⟩
  · show (cu m 4098 (rgI m.nx.length) (rgI m.nx.length) [] 0).length ≤ 2064
    omega
  · have := g2 (cG m) ((cG m).length + 1) (fun i hi => by rw [Nat.zero_add]; rfl) (by omega)
    rw [Nat.zero_add] at this; exact this
  · have h2 := g4 (cG m) (fun i hi => by rw [Nat.zero_add]; rfl) f s (gZ.2 ⟨h0, h1⟩)
    rw [if_pos rfl, d5] at h2
    have h3 := ut n8
    rw [BL] at h3
    simp only [aG] at h2
    rw [Nat.sub_zero] at h2
    omega
/-plain-/
theorem dy (m : Mly) : cu m 4098 (rgI m.nx.length) (rgI m.nx.length) [] 0 = cG m := rfl
def dr (m : Mly) : Int := if ¬ dL m = 0 then dL m else if 4096 < (cG m).length then 11 else 0
def i7 (m : Mly) : List ba := if dr m = 0 then cG m else []
def l8 (m : Mly) : Bool := decide (dr m = 0) && jT (cG m)
theorem y3 (m : Mly) : (cG m).length ≤ 4097 := by have := mm m 4098 (rgI m.nx.length) (rgI m.nx.length) [] 0 (by omega); rw [Nat.zero_add] at this; exact this
theorem fu {m : Mly} (h : ¬ dr m = 0) : i7 m = [] ∧ l8 m = false := by
  unfold i7 l8; rw [if_neg h, decide_eq_false h]; exact ⟨rfl, rfl⟩
theorem eR {m : Mly} (h : dr m = 0) : i7 m = cG m ∧ l8 m = jT (cG m) := by
  unfold i7 l8; rw [if_pos h, decide_eq_true h]; exact ⟨rfl, rfl⟩
/-plain-/
def prL (f : Nat → Int) (n s : Nat) (x : Int) : List Int := (List.range n).map fun q => if q < s then f q else if q = s then x else 0
theorem pK (f : Nat → Int) (n s : Nat) (x : Int) : (prL f n s x).length = n := by simp [prL]
theorem tC {f : Nat → Int} {n s : Nat} (h : s < n) (x y : Int) : (prL f n s x).set s y = prL f n s y := by
  refine List.ext_getElem (by simp [prL]) fun i h1 h2 => ?_
  simp only [prL, List.getElem_set, List.getElem_map, List.getElem_range]
  by_cases e : s = i
  · subst e; simp
  · rw [if_neg e, if_neg (Ne.symm e), if_neg (Ne.symm e)]
theorem qW (f : Nat → Int) (n s : Nat) : prL f n s (f s) = prL f n (s + 1) 0 := by
  unfold prL
  refine List.map_congr_left fun q _ => ?_
  by_cases e : q = s
  · subst e; simp
  · by_cases e2 : q < s
    · rw [if_pos e2, if_pos (by omega)]
    · rw [if_neg e2, if_neg e, if_neg (by omega)]; split <;> rfl
theorem yz (f : Nat → Int) (n : Nat) : prL f n 0 0 = List.replicate n 0 := by
  refine List.ext_getElem (by simp [prL]) fun i h1 h2 => ?_
  simp [prL]
theorem tX (f : Nat → Int) (n : Nat) (x : Int) : prL f n n x = (List.range n).map f := by
  unfold prL
  refine List.map_congr_left fun q hq => ?_
  rw [if_pos (List.mem_range.1 hq)]
def bI1 (b : Bool) : Int := if b = true then 1 else 0
def BN (d : Dfa) (s : Nat) : Int := bI1 (d.acc.getD s false)
/-plain-/
/-plain-/
/-plain-/
instance dq12 : DecidableEq ba := @instDecidableEqProd (List Int) (Int × (List dM × Unit)) inferInstance (@instDecidableEqProd Int (List dM × Unit) inferInstance inferInstance)
theorem wF {T U : List ba} {i : Nat} (h : (T.getD i nd0) ≠ (U.getD i nd0)) : ¬ T = U := fun e => h (by rw [e])
theorem lQ {T U : List ba} (hl : T.length = U.length) (h : ∀ i, i < T.length → T.getD i nd0 = U.getD i nd0) : T = U := by
  apply List.ext_getElem hl
  intro i h1 h2
  have := h i h1
  simpa [List.getD, h1, h2] using this
theorem yk {K L : List dM} (hl : K.length = L.length) (h : ∀ i, i < K.length → K.getD i kd0 = L.getD i kd0) : K = L := by
  apply List.ext_getElem hl
  intro i h1 h2
  have := h i h1
  simpa [List.getD, h1, h2] using this
theorem BB {x y : ba} (h1 : x.2.1 = y.2.1) (h2 : x.1 = y.1) (h3 : x.2.2.1 = y.2.2.1) : x = y := by
  obtain ⟨a, b, c, _⟩ := x; obtain ⟨a2, b2, c2, _⟩ := y
  simp only at h1 h2 h3
  subst h1 h2 h3; rfl
theorem BG {x y : dM} (h1 : x.1 = y.1) (h2 : x.2.1 = y.2.1) : x = y := by
  obtain ⟨a, b, _⟩ := x; obtain ⟨a2, b2, _⟩ := y
  simp only at h1 h2
  subst h1 h2; rfl
/-plain-/
def eh : Mly := ⟨1, 0, [[1], [2], [0]], [[0], [0], [1]]⟩
def i8 : List ba := [([0, 1, 2], (0, ([(0, (1, ())), (1, (4, ()))], ()))), ([0, 1], (0, ([(0, (2, ())), (1, (3, ()))], ()))), ([0], (-1, ([], ()))), ([1], (-1, ([], ()))), ([2], (-1, ([], ())))]
def z12 : Mly := ⟨0, 0, [], []⟩
theorem cf : eh.av = .agg [.int .i64 1, .int .i64 0, .list (.list (.int .i64)) [[1], [2], [0]], .list (.list (.int .i64)) [[0], [0], [1]]] := rfl
theorem cg : AC.list ndT i8 = AC.list (.pair (.list (.int .i64)) (.pair (.int .i64) (.pair (.list (.pair (.int .i64) (.pair (.int .i64) .unit))) .unit))) [([0, 1, 2], (0, ([(0, (1, ())), (1, (4, ()))], ()))), ([0, 1], (0, ([(0, (2, ())), (1, (3, ()))], ()))), ([0], (-1, ([], ()))), ([1], (-1, ([], ()))), ([2], (-1, ([], ())))] := rfl
def vV (xs : List Int) : List Int := xs.foldl nD []
def tg (m : Mly) : Nat → List Int → List Int → List Int → Nat → List ba
  | 0, _, _, _, _ => []
  | f + 1, ini, cur, w, n => if 4096 < n + 1 then [(ini, -1, [], ())] else
    match gm m ini cur w with
    | [] => [(ini, -1, [], ())]
    | a :: w2 => (ini, a, ((vV (ouL m cur a)).foldl (dB n (fun i c k => tg m f i c w2 k) m ini cur a) ([], [])).2, ()) :: ((vV (ouL m cur a)).foldl (dB n (fun i c k => tg m f i c w2 k) m ini cur a) ([], [])).1
theorem rD (m : Mly) : ∀ f, tg m f = cu m f
  | 0 => rfl
  | f + 1 => by
    funext ini cur w n
    rw [tg, cu, rD m f]
    have e : vV = aF := by funext xs; exact xr xs
    rw [e]
    cases gm m ini cur w <;> rfl
theorem AQ : aS eh = 0 := by decide +kernel
theorem vv : dL eh = 0 := by decide +kernel
theorem tb : cG eh = i8 := by
  show cu eh 4098 _ _ [] 0 = _
  rw [← rD]; decide +kernel
theorem zX : dr eh = 0 := by unfold dr; rw [vv, tb]; decide
theorem rz : i7 eh = i8 := by rw [(eR zX).1, tb]
theorem BK : l8 eh = true := by rw [(eR zX).2, tb]; decide
theorem C4 : ¬ dr z12 = 0 := by
  have e : dL z12 = 2 := by decide +kernel
  unfold dr; rw [e]; decide
theorem Am : f0 eh i8 = 0 := by
  unfold f0
  rw [if_neg (fun h => h vv), if_neg]
  have h := (iX (eI AQ) (by decide)).2.1
  rw [tb] at h
  exact fun h9 => h9.elim (by decide) (fun h8 => h8 h)
theorem Bj : gB eh i8 0 = 0 := by unfold gB; rw [Am]; decide
theorem BZ : i9 eh i8 0 = ([0, 0], 2) := by decide +kernel
theorem By : dpT i8 = 2 := by decide +kernel
theorem Bg : f0 eh [] = 1 := by
  unfold f0
  rw [if_neg (fun h => h vv), if_pos]
  right
  rw [ou (by simp)]; simp
theorem r7 {m : Mly} {n : Nat} {rec : List Int → List Int → Nat → List ba} {ini cur : List Int} {a : Int} (hr : ∀ o k, ∀ x ∈ rec (cb m ini cur a cur.length o) (bE m cur a cur.length o) k, x.2.2.1.length ≤ 1000) : ∀ (ks : List Int) (t : List ba × List dM), (∀ x ∈ t.1, x.2.2.1.length ≤ 1000) →
    (∀ x ∈ (ks.foldl (dB n rec m ini cur a) t).1, x.2.2.1.length ≤ 1000) ∧ (ks.foldl (dB n rec m ini cur a) t).2.length ≤ t.2.length + ks.length
  | [], t, h => ⟨h, Nat.le_refl _⟩
  | o :: ks, t, h => by
    rw [List.foldl_cons]
    have h1 : (∀ x ∈ (dB n rec m ini cur a t o).1, x.2.2.1.length ≤ 1000) ∧ (dB n rec m ini cur a t o).2.length ≤ t.2.length + 1 := by
      unfold dB
      split
      · exact ⟨h, Nat.le_succ _⟩
      · refine ⟨fun x hx => ?_, by simp⟩
        rcases List.mem_append.1 hx with h9 | h9
        · exact h x h9
        · exact hr _ _ x h9
    obtain ⟨a1, a2⟩ := r7 hr ks _ h1.1
    exact ⟨a1, by rw [aw]; omega⟩
theorem tT {m : Mly} : ∀ (f : Nat) (ini cur w : List Int) (n : Nat), cur.length ≤ 1000 → ∀ x ∈ cu m f ini cur w n, x.2.2.1.length ≤ 1000
  | 0, _, _, _, _, _, x, hx => by cases hx
  | f + 1, ini, cur, w, n, h, x, hx => by
    by_cases e : 4096 < n + 1
    · rw [eQ e, List.mem_singleton] at hx; rw [hx]; exact Nat.zero_le _
    · cases hw : gm m ini cur w with
      | nil => rw [eF e hw, List.mem_singleton] at hx; rw [hx]; exact Nat.zero_le _
      | cons a w2 =>
        rw [cW e hw] at hx
        obtain ⟨h1, h2⟩ := r7 (m := m) (n := n) (rec := fun i c k => cu m f i c w2 k) (ini := ini) (cur := cur) (a := a) (fun o k => tT f _ _ w2 k (by have := lT (m := m) (cur := cur) (a := a) (o := o) (i := cur.length); omega)) (aF (ouL m cur a)) ([], []) (fun x hx => by cases hx)
        rcases List.mem_cons.1 hx with h9 | h9
        · rw [h9]
          have h3 := gX (ouL m cur a)
          have h4 : (ouL m cur a).length = cur.length := aD ..
          simp only [aG] at h2
          show ((aF (ouL m cur a)).foldl (dB n (fun i c k => cu m f i c w2 k) m ini cur a) ([], [])).2.length ≤ 1000
          omega
        · exact h1 x h9
theorem xz {m : Mly} : ∀ x ∈ i7 m, x.2.2.1.length ≤ 1000000 := fun x hx => by
  by_cases h : dr m = 0
  · rw [(eR h).1] at hx
    have hE : dL m = 0 := Classical.byContradiction fun h9 => by unfold dr at h; rw [if_pos h9] at h; exact h9 h
    have hn2 := (eI (qn hE)).n2
    have := tT 4098 _ _ _ _ (by rw [d5]; omega) x hx
    omega
  · rw [(fu h).1] at hx; cases hx
/-plain-/
theorem ml {P : Program} {f : FuncId} {xs ys : List AV} {r : AV} (h : bJ P f ys r) (hv : bl VLE xs ys) : bJ P f xs r :=
  ⟨h.1, fun C L σ w vs hP hi ha => h.2 C L σ w vs hP hi (hv.map2 (fun a b c hab hac => hab C L σ w c hac) ha)⟩
/-plain-/
theorem xJ {C : Ctx} {Q : Go.Exit → St → Prop} {s : St} {c : Go.Code} {L1 G : List AO} (hG : G = [] ∨ ∃ ob, G = [ob]) (hL : s.L = L1 ++ G) (hB : C.bL.length ≤ L1.length) (he : s.env.all (fun x => gA L1.length x.2) = true) (ho : L1.all (eg L1.length) = true)
    (h : AWP C c Q { env := s.env, L := L1 }) : AWP C c Q s := by
  rcases hG with rfl | ⟨ob, rfl⟩
  · rw [List.append_nil] at hL
    have : s = { env := s.env, L := L1 } := by cases s; simp only at hL; rw [hL]
    rw [this]; exact h
  · exact ew hL hB he ho h
/-plain-/
/-plain-/
/-plain-/
/-plain-/
def Dfa.sg (d : Dfa) (cl : List Int) (s : Nat) : List Int := cl.getD s 0 :: (d.nx.getD s []).map fun t => cl.getD t.toNat 0
def Dfa.nxL (d : Dfa) (cl : List Int) : List Int := (List.range d.nx.length).map fun s => (pos (d6 (d.sg cl) d.nx.length) (d.sg cl s) : Int)
def Dfa.cl (d : Dfa) : Nat → List Int
  | 0 => (List.range d.nx.length).map (BN d)
  | i + 1 => d.nxL (d.cl i)
def Dfa.cn (d : Dfa) : Nat → Nat
  | 0 => 0
  | i + 1 => (d6 (d.sg (d.cl i)) d.nx.length).length
def BQ (n : Int) (w : List Int) : Prop := ∀ x, x ∈ w → 0 ≤ x ∧ x < n
def DEQ (a b : Dfa) (s t : Int) : Prop := ∀ w : List Int, BQ a.inp w → a.ac (a.run s w) = b.ac (b.run t w)
theorem DEQ.acc {a b : Dfa} {s t : Int} (h : DEQ a b s t) : a.ac s = b.ac t := h [] (fun x hx => by cases hx)
theorem DEQ.refl (d : Dfa) (s : Int) : DEQ d d s s := fun _ _ => rfl
theorem DEQ.symm {d : Dfa} {s t : Int} (h : DEQ d d s t) : DEQ d d t s := fun w hw => (h w hw).symm
theorem DEQ.trans {d : Dfa} {s t u : Int} (h : DEQ d d s t) (h2 : DEQ d d t u) : DEQ d d s u := fun w hw => (h w hw).trans (h2 w hw)
/-plain-/
/-plain-/
structure SIM (A B : STP) (n : Nat) (R : PP → PP → Prop) : Prop where
  st : ∀ p q, R p q → ∀ x, x < n → R (A p x) (B q x)
  bi : ∀ p q p' q', R p q → R p' q' → (p = p' ↔ q = q')
def RL (R : PP → PP → Prop) (l l' : List W3) : Prop := l.length = l'.length ∧ ∀ i, i < l.length → R (l.getD i w30).1 (l'.getD i w30).1 ∧ (l.getD i w30).2 = (l'.getD i w30).2
theorem RL.mem {A B : STP} {n : Nat} {R : PP → PP → Prop} (hs : SIM A B n R) {l l' : List W3} (h : RL R l l') {p q : PP} (hr : R p q) : p ∈ l.map Prod.fst ↔ q ∈ l'.map Prod.fst := by
  constructor
  · intro hm
    obtain ⟨e, he, e1⟩ := List.mem_map.1 hm
    obtain ⟨i, hi⟩ := List.getElem?_of_mem he
    have hlt := (List.getElem?_eq_some_iff.1 hi).1
    have h2 := h.2 i hlt
    have h3 : l.getD i w30 = e := by rw [List.getD, hi]; rfl
    rw [h3, e1] at h2
    have := (hs.bi _ _ _ _ h2.1 hr).1 rfl
    rw [← this]
    exact List.mem_map.2 ⟨_, sC (by rw [← h.1]; exact hlt), rfl⟩
  · intro hm
    obtain ⟨e, he, e1⟩ := List.mem_map.1 hm
    obtain ⟨i, hi⟩ := List.getElem?_of_mem he
    have hlt := (List.getElem?_eq_some_iff.1 hi).1
    have h2 := h.2 i (by rw [h.1]; exact hlt)
    have h3 : l'.getD i w30 = e := by rw [List.getD, hi]; rfl
    rw [h3, e1] at h2
    have := (hs.bi _ _ _ _ h2.1 hr).2 rfl
    rw [← this]
    exact List.mem_map.2 ⟨_, sC (by rw [h.1]; exact hlt), rfl⟩
theorem RL.snoc {R : PP → PP → Prop} {l l' : List W3} (h : RL R l l') {e f : W3} (hr : R e.1 f.1) (hw : e.2 = f.2) : RL R (l ++ [e]) (l' ++ [f]) := by
  refine ⟨by simp [h.1], fun i hi => ?_⟩
  rw [ar, List.length_singleton] at hi
  by_cases e1 : i < l.length
  · rw [dP e1, dP (by rw [← h.1]; exact e1)]; exact h.2 i e1
  · rw [gF (by omega), gF (by have := h.1; omega)]; exact ⟨hr, hw⟩
theorem RL.row {A B : STP} {n : Nat} {R : PP → PP → Prop} (hs : SIM A B n R) {l l' : List W3} (h : RL R l l') {e f : W3} (hr : R e.1 f.1) (hw : e.2 = f.2) : ∀ x, x ≤ n → RL R (jz A e l x) (jz B f l' x)
  | 0, _ => h
  | x + 1, hx => by
    have ih := h.row hs hr hw x (by omega)
    have h2 := hs.st _ _ hr x (by omega)
    rw [js, js]
    by_cases hm : A e.1 x ∈ (jz A e l x).map Prod.fst
    · rw [sM hm, sM ((ih.mem hs h2).1 hm)]; exact ih
    · rw [oC hm, oC (fun k => hm ((ih.mem hs h2).2 k))]
      exact ih.snoc h2 (by rw [hw])
theorem RL.one {R : PP → PP → Prop} {p q : PP} (h : R p q) : RL R [(p, [])] [(q, [])] := ⟨rfl, fun i hi => by
  have : i = 0 := by simpa using hi
  subst this; exact ⟨h, rfl⟩⟩
/-plain-/
/-plain-/
def SLT (u v : List Int) : Prop := u.length < v.length ∨ (u.length = v.length ∧ ∃ m, m < u.length ∧ (∀ q, q < m → u.getD q 0 = v.getD q 0) ∧ u.getD m 0 < v.getD m 0)
def SLE (u v : List Int) : Prop := u = v ∨ SLT u v
theorem SLT.trans {u v w : List Int} (h : SLT u v) (h2 : SLT v w) : SLT u w := by
  rcases h with h | ⟨h, m, a1, a2, a3⟩
  · rcases h2 with h2 | ⟨h2, _⟩
    · exact .inl (by omega)
    · exact .inl (by omega)
  · rcases h2 with h2 | ⟨h2, k, b1, b2, b3⟩
    · exact .inl (by omega)
    · refine .inr ⟨by omega, ?_⟩
      rcases Nat.lt_trichotomy m k with e | e | e
      · exact ⟨m, a1, fun q hq => (a2 q hq).trans (b2 q (by omega)), by rw [← b2 m e]; exact a3⟩
      · subst e; exact ⟨m, a1, fun q hq => (a2 q hq).trans (b2 q hq), by omega⟩
      · exact ⟨k, by omega, fun q hq => (a2 q (by omega)).trans (b2 q hq), by rw [a2 k e]; exact b3⟩
theorem SLE.trans_lt {u v w : List Int} (h : SLE u v) (h2 : SLT v w) : SLT u w := by
  rcases h with rfl | h
  · exact h2
  · exact h.trans h2
theorem SLE.trans {u v w : List Int} (h : SLE u v) (h2 : SLE v w) : SLE u w := by
  rcases h2 with rfl | h2
  · exact h
  · exact .inr (h.trans_lt h2)
theorem SLT.app {u v : List Int} (h : SLT u v) (a b : Int) : SLT (u ++ [a]) (v ++ [b]) := by
  rcases h with h | ⟨h, m, a1, a2, a3⟩
  · exact .inl (by simp; omega)
  · refine .inr ⟨by simp; omega, m, by simp; omega, fun q hq => ?_, ?_⟩
    · rw [dP (by omega), dP (by omega)]; exact a2 q hq
    · rw [dP a1, dP (by omega)]; exact a3
theorem SLE.app {u v : List Int} (h : SLE u v) (a : Int) : SLE (u ++ [a]) (v ++ [a]) := by
  rcases h with rfl | h
  · exact .inl rfl
  · exact .inr (h.app a a)
theorem SLT.nil (u : List Int) (x : Int) : SLT [] (u ++ [x]) := .inl (by simp)
theorem SLE.len {u v : List Int} (h : SLE u v) : u.length ≤ v.length := by
  rcases h with rfl | h | ⟨h, _⟩ <;> omega
structure BW (A : STP) (n i : Nat) (l : List W3) : Prop where
  so : ∀ j k, j < k → k < l.length → SLT (l.getD j w30).2 (l.getD k w30).2
  mi : ∀ j, j < i → j < l.length → ∀ x, x < n → ∃ k, k < l.length ∧ (l.getD k w30).1 = A (l.getD j w30).1 x ∧ SLE (l.getD k w30).2 ((l.getD j w30).2 ++ [(x : Int)])
  up : i < l.length → ∀ k, k < l.length → SLT (l.getD k w30).2 ((l.getD i w30).2 ++ [0])
structure BX (A : STP) (n i x : Nat) (l0 l : List W3) : Prop where
  so : ∀ j k, j < k → k < l.length → SLT (l.getD j w30).2 (l.getD k w30).2
  mi : ∀ y, y < x → ∃ k, k < l.length ∧ (l.getD k w30).1 = A (l0.getD i w30).1 y ∧ SLE (l.getD k w30).2 ((l0.getD i w30).2 ++ [(y : Int)])
  up : ∀ k, k < l.length → SLT (l.getD k w30).2 ((l0.getD i w30).2 ++ [(x : Int)])
/-plain-/
structure LCL (A : STP) (n : Nat) (L : List W3) : Prop where
  nd : (L.map Prod.fst).Nodup
  cl : ∀ j, j < L.length → ∀ x, x < n → A (L.getD j w30).1 x ∈ L.map Prod.fst
variable {A : STP} {G : PP → Bool} {n : Nat} {L : List W3}
/-plain-/
def Dfa.sto (d : Dfa) : Nat → Nat → Nat
  | 0, i => i
  | f + 1, i => if d.cn (i + 1) = d.cn i then i else d.sto f (i + 1)
def Dfa.cls (d : Dfa) : List Int := d.cl (d.sto (d.nx.length + 1) 0 + 1)
def fsV (cl : List Int) (n s c : Nat) : Int := match (List.range n).find? (fun q => decide (s ≤ q) && decide (cl.getD q 0 = (c : Int))) with | some q => (q : Int) | none => 0
def fsL (cl : List Int) (n s : Nat) : List Int := (List.range n).map fun c => fsV cl n s c
def Dfa.rep (d : Dfa) (s : Int) : Int := (fsL d.cls d.nx.length 0).getD (d.cls.getD s.toNat 0).toNat 0
structure RPR (d : Dfa) (s r : Int) : Prop where
  rg : 0 ≤ r ∧ r < d.nx.length
  le : r ≤ s
  cl : d.cls.getD r.toNat 0 = d.cls.getD s.toNat 0
  mi : ∀ q : Nat, (q : Int) < r → d.cls.getD q 0 ≠ d.cls.getD s.toNat 0
/-plain-/
structure M1OK (d : Dfa) (q : PP) (x : Nat) : Prop where
  r1 : 0 ≤ q.1 ∧ q.1 < d.nx.length
  rl : ((d.nx.getD q.1.toNat []).length : Int) = d.inp
  t1 : 0 ≤ (d.nx.getD q.1.toNat []).getD x 0 ∧ (d.nx.getD q.1.toNat []).getD x 0 < d.nx.length
  c1 : 0 ≤ d.cls.getD ((d.nx.getD q.1.toNat []).getD x 0).toNat 0 ∧ d.cls.getD ((d.nx.getD q.1.toNat []).getD x 0).toNat 0 < d.nx.length
  e : d.rep (d.dl q.1 x) = (fsL d.cls d.nx.length 0).getD (d.cls.getD ((d.nx.getD q.1.toNat []).getD x 0).toNat 0).toNat 0
/-plain-/
structure SHP (d : Dfa) (P : List W3) (k : Nat) : Prop where
  rg : 0 ≤ (P.getD k w30).1.1 ∧ (P.getD k w30).1.1 < d.nx.length
/-plain-/
/-plain-/
/-plain-/
def lq (P : Nat → Bool) (s : Nat) : Nat := ((List.range s).find? P).getD s
def rc0 (t : Dfa) (s : Nat) : Int := (lq (fun q => decide (t.acc.getD q false = t.acc.getD s false)) s : Int)
def rcF (t : Dfa) (cl : List Int) (s : Nat) : Int := (lq (fun q => decide (t.sg cl q = t.sg cl s)) s : Int)
def rcl (t : Dfa) : Nat → List Int
  | 0 => (List.range t.nx.length).map (rc0 t)
  | r + 1 => (List.range t.nx.length).map (rcF t (rcl t r))
def rC (t : Dfa) : List Int := rcl t t.nx.length
structure RCK (t : Dfa) : Prop where
  rg : ∀ s, s < t.nx.length → 0 ≤ (rC t).getD s 0 ∧ (rC t).getD s 0 ≤ s
  eq : ∀ s u, s < t.nx.length → u < t.nx.length → ((rC t).getD s 0 = (rC t).getD u 0 ↔ DEQ t t s u)
  id : ∀ s, s < t.nx.length → (rC t).getD ((rC t).getD s 0).toNat 0 = (rC t).getD s 0
/-plain-/
/-plain-/
structure PRL (a b M : Mly) (w : List Int) : Prop where
  v : aS M = 0
  st : M.st = 0
  re : M.reach.length = M.nx.length
  ea : f8 a a.st w = cF w a.inp
  eb : f8 b b.st w = cF w a.inp
  em : f8 M M.st w = cF w a.inp
  la : (dJ a a.st w).length = (dJ M M.st w).length
  lb : (dJ b b.st w).length = (dJ M M.st w).length
  at_ : ∀ i, i < (dJ M M.st w).length → (dJ M M.st w).getD i 0 = (dJ a a.st w).getD i 0 * (1 + gr b) + (dJ b b.st w).getD i 0
structure CAL (a b M : Mly) (w : List Int) : Prop where
  v : aS M = 0
  ea : f8 a a.st w = cF w a.inp
  em : f8 M M.st w = cF w a.inp
  eb : cF w a.inp = 0 → f8 b b.st (dJ a a.st w) = 0
  vb : cF w a.inp = 0 → dJ b b.st (dJ a a.st w) = dJ M M.st w
def plU (n : Int) (w : List Int) : List Int := w.filter fun x => decide (x < n)
def plV (n : Int) (w : List Int) : List Int := (w.filter fun x => !decide (x < n)).map fun x => x - n
def plA (n : Int) (e : List (Int × Int)) : List Int := (e.filter fun x => decide (x.1 < n)).map (·.2)
def plB (n k : Int) (e : List (Int × Int)) : List Int := (e.filter fun x => !decide (x.1 < n)).map fun x => x.2 - 1 - k
structure PLL (a b M : Mly) (w : List Int) : Prop where
  v : aS M = 0
  inp : M.inp = a.inp + b.inp
  em : f8 M M.st w = cF w (a.inp + b.inp)
  lm : cF w (a.inp + b.inp) = 0 → (dJ M M.st w).length = w.length
  ea : cF w (a.inp + b.inp) = 0 → f8 a a.st (plU a.inp w) = 0
  eb : cF w (a.inp + b.inp) = 0 → f8 b b.st (plV a.inp w) = 0
  va : cF w (a.inp + b.inp) = 0 → dJ a a.st (plU a.inp w) = plA a.inp (w.zip (dJ M M.st w))
  vb : cF w (a.inp + b.inp) = 0 → dJ b b.st (plV a.inp w) = plB a.inp (gr a) (w.zip (dJ M M.st w))
/-plain-/
def iO (m : Mly) : Bool := (decide (12 < m.nx.length) || decide (12 < m.ot.length) || decide (6 < m.inp)) || (m.nx.any (fun r => decide (12 < r.length)) || m.ot.any (fun r => decide (12 < r.length)))
theorem AU {m : Mly} (h : (12 < m.nx.length ∨ 12 < m.ot.length) ∨ 6 < m.inp) : iO m = true := by
  unfold iO
  rw [Bool.or_eq_true]; left
  simp only [Bool.or_eq_true, decide_eq_true_eq]; exact h
theorem B0 {m : Mly} {k : Nat} (hk : k < m.nx.length) (h : 12 < (m.nx.getD k []).length) : iO m = true := by
  unfold iO
  rw [Bool.or_eq_true]; right; rw [Bool.or_eq_true]; left
  refine List.any_eq_true.2 ⟨_, List.getElem_mem hk, ?_⟩
  rw [List.getD, List.getElem?_eq_getElem hk] at h
  exact decide_eq_true h
theorem AB {m : Mly} {k : Nat} (hk : k < m.ot.length) (h : 12 < (m.ot.getD k []).length) : iO m = true := by
  unfold iO
  rw [Bool.or_eq_true]; right; rw [Bool.or_eq_true]; right
  refine List.any_eq_true.2 ⟨_, List.getElem_mem hk, ?_⟩
  rw [List.getD, List.getElem?_eq_getElem hk] at h
  exact decide_eq_true h
theorem oc {m : Mly} (h0 : ¬ ((12 < m.nx.length ∨ 12 < m.ot.length) ∨ 6 < m.inp)) (h1 : ∀ q, q < m.nx.length → (m.nx.getD q []).length ≤ 12) (h2 : ∀ q, q < m.ot.length → (m.ot.getD q []).length ≤ 12) : iO m = false := by
  have any_no : ∀ (L : List (List Int)), (∀ q, q < L.length → (L.getD q []).length ≤ 12) → L.any (fun r => decide (12 < r.length)) = false := fun L h => by
    rw [List.any_eq_false]
    intro x hx
    obtain ⟨i, hi, rfl⟩ := List.getElem_of_mem hx
    have := h i hi
    rw [List.getD, List.getElem?_eq_getElem hi] at this
    simp only [Option.getD_some] at this
    rw [decide_eq_true_eq]; omega
  unfold iO
  rw [any_no _ h1, any_no _ h2, decide_eq_false (by omega), decide_eq_false (by omega), decide_eq_false (by omega)]; rfl
def uy (m : Mly) : Bool := (!iO m && decide (m.nx.length ≤ 8)) && decide (m.inp ≤ 4)
theorem Ae {m : Mly} (h : uy m = true) : m.nx.length ≤ 8 ∧ m.inp ≤ 4 := by
  unfold uy at h
  simp only [Bool.and_eq_true, decide_eq_true_eq] at h
  exact ⟨h.1.2, h.2⟩
/-plain-/
theorem Ak {K : List dM} {i : Nat} (h : i < K.length) : K.getD i kd0 ∈ K := by
  rw [List.getD, List.getElem?_eq_getElem h]; exact List.getElem_mem h
theorem pM {m : Mly} {ini cur : List Int} {a : Int} {q : Nat} (hq : q < cur.length) : ∃ j, j < (bE m cur a cur.length (m.out (cur.getD q 0) a)).length ∧ (ptL m cur a (m.out (cur.getD q 0) a) cur.length).getD j 0 = (q : Int) ∧
    (cb m ini cur a cur.length (m.out (cur.getD q 0) a)).getD j 0 = ini.getD q 0 ∧ (bE m cur a cur.length (m.out (cur.getD q 0) a)).getD j 0 = m.nxt (cur.getD q 0) a := by
  obtain ⟨j, hj, e⟩ := fF (m8.2 ⟨q, hq, rfl, rfl⟩ : (q : Int) ∈ ptL m cur a (m.out (cur.getD q 0) a) cur.length)
  have e3 : (ptL m cur a (m.out (cur.getD q 0) a) cur.length)[j]'hj = (q : Int) := (jb hj).symm.trans e
  refine ⟨j, ?_, e, ?_, ?_⟩
  · unfold bE cA pkL; rw [aD, aD]; exact hj
  · unfold cb pkL; rw [List.getD, List.getElem?_map, List.getElem?_eq_getElem hj, e3]; simp
  · unfold bE cA pkL; rw [List.getD, List.getElem?_map, List.getElem?_map, List.getElem?_eq_getElem hj, e3]; simp
theorem qc {m : Mly} {T : List ba} {rec : Nat → List Int → List Int → Option Nat} (hr : ∀ e i c n, rec e i c = some n → e < n ∧ n ≤ T.length) {ini cur : List Int} {x : ba} {p : Nat} : ∀ (k n : Nat), (List.range k).foldl (fc m rec ini cur x) (some (p + 1)) = some n →
    (p + 1 ≤ n) ∧ ∀ i, i < k → ∃ e n2, p + 1 ≤ e ∧ n2 ≤ n ∧ (x.2.2.1.getD i kd0).1 = (aF (ouL m cur x.2.1)).getD i 0 ∧ (x.2.2.1.getD i kd0).2.1 = (e : Int) ∧ rec e (cb m ini cur x.2.1 cur.length ((aF (ouL m cur x.2.1)).getD i 0)) (bE m cur x.2.1 cur.length ((aF (ouL m cur x.2.1)).getD i 0)) = some n2 ∧
      ∀ j, i < j → j < k → (n2 : Int) ≤ (x.2.2.1.getD j kd0).2.1
  | 0, n, h => by
    simp only [List.range_zero, List.foldl_nil, Option.some.injEq] at h
    exact ⟨by omega, fun i hi => by omega⟩
  | k + 1, n, h => by
    rw [List.range_succ, List.foldl_append, List.foldl_cons, List.foldl_nil] at h
    cases h1 : (List.range k).foldl (fc m rec ini cur x) (some (p + 1)) with
    | none => rw [h1] at h; cases h
    | some e =>
      rw [h1] at h
      obtain ⟨h2, h3⟩ := qc hr k e h1
      by_cases hk : (x.2.2.1.getD k kd0).1 = (aF (ouL m cur x.2.1)).getD k 0 ∧ (x.2.2.1.getD k kd0).2.1 = (e : Int)
      · rw [kD hk] at h
        have h4 := hr _ _ _ _ h
        refine ⟨by omega, fun i hi => ?_⟩
        by_cases e9 : i = k
        · subst e9; exact ⟨e, n, h2, Nat.le_refl _, hk.1, hk.2, h, fun j h5 h6 => by omega⟩
        · obtain ⟨e1, n1, a1, a2, a3, a4, a5, a6⟩ := h3 i (by omega)
          refine ⟨e1, n1, a1, by omega, a3, a4, a5, fun j h5 h6 => ?_⟩
          by_cases e8 : j = k
          · subst e8; rw [hk.2]; omega
          · exact a6 j h5 (by omega)
      · rw [qr hk] at h; cases h
theorem t8 {m : Mly} {T : List ba} {f p n : Nat} {ini cur : List Int} (h : rtF m T (f + 1) p ini cur = some n) (h0 : ¬ (T.getD p nd0).2.1 < 0) {s : Int} (hs : s ∈ cur) :
    ∃ e n2 : Nat, kTo (T.getD p nd0).2.2.1 (m.out s (T.getD p nd0).2.1) = (e : Int) ∧ p + 1 ≤ e ∧ n2 ≤ n ∧
      rtF m T f e (cb m ini cur (T.getD p nd0).2.1 cur.length (m.out s (T.getD p nd0).2.1)) (bE m cur (T.getD p nd0).2.1 cur.length (m.out s (T.getD p nd0).2.1)) = some n2 ∧
      (∃ k ∈ (T.getD p nd0).2.2.1, k.2.1 = (e : Int)) ∧ ∀ u, u ∈ cur → m.out s (T.getD p nd0).2.1 < m.out u (T.getD p nd0).2.1 → (n2 : Int) ≤ kTo (T.getD p nd0).2.2.1 (m.out u (T.getD p nd0).2.1) := by
  obtain ⟨hn, hk⟩ := lH h
  rcases hk with ⟨h1, _⟩ | ⟨h1, h2, h3, h4⟩
  · omega
  · obtain ⟨_, hall⟩ := qc (fun e i c n h => eD h) _ _ h4
    have hso := (du (ouL m cur (T.getD p nd0).2.1)).1
    have hkt : ∀ u, u ∈ cur → pos (aF (ouL m cur (T.getD p nd0).2.1)) (m.out u (T.getD p nd0).2.1) < (T.getD p nd0).2.2.1.length ∧ (aF (ouL m cur (T.getD p nd0).2.1)).getD (pos (aF (ouL m cur (T.getD p nd0).2.1)) (m.out u (T.getD p nd0).2.1)) 0 = m.out u (T.getD p nd0).2.1 ∧
        kTo (T.getD p nd0).2.2.1 (m.out u (T.getD p nd0).2.1) = ((T.getD p nd0).2.2.1.getD (pos (aF (ouL m cur (T.getD p nd0).2.1)) (m.out u (T.getD p nd0).2.1)) kd0).2.1 := fun u hu => by
      have hin : m.out u (T.getD p nd0).2.1 ∈ aF (ouL m cur (T.getD p nd0).2.1) := ((du _).2 _).2 (List.mem_map.2 ⟨u, hu, rfl⟩)
      have hpl := gD hin
      have hgp := ju hin
      obtain ⟨_, _, _, _, h5, _⟩ := hall _ (by omega : pos (aF (ouL m cur (T.getD p nd0).2.1)) (m.out u (T.getD p nd0).2.1) < (T.getD p nd0).2.2.1.length)
      refine ⟨by omega, hgp, oq (by omega) (by rw [h5]; exact hgp) fun j hj h9 => ?_⟩
      obtain ⟨_, _, _, _, h6, _⟩ := hall j (by omega)
      rw [h6] at h9
      have e1 : (aF (ouL m cur (T.getD p nd0).2.1)).getD j 0 = (aF (ouL m cur (T.getD p nd0).2.1))[j]'(by omega) := jb (by omega)
      have e2 : (aF (ouL m cur (T.getD p nd0).2.1)).getD (pos (aF (ouL m cur (T.getD p nd0).2.1)) (m.out u (T.getD p nd0).2.1)) 0 = (aF (ouL m cur (T.getD p nd0).2.1))[pos (aF (ouL m cur (T.getD p nd0).2.1)) (m.out u (T.getD p nd0).2.1)]'hpl := jb hpl
      have := List.pairwise_iff_getElem.1 hso _ _ (by omega) hpl hj
      omega
    obtain ⟨k1, k2, k3⟩ := hkt s hs
    obtain ⟨e, n2, a1, a2, a3, a4, a5, a6⟩ := hall _ k1
    rw [k2] at a5
    refine ⟨e, n2, by rw [k3]; exact a4, a1, a2, a5, ⟨_, ?_, a4⟩, fun u hu hlt => ?_⟩
    · exact Ak k1
    · obtain ⟨l1, l2, l3⟩ := hkt u hu
      rw [l3]
      refine a6 _ ?_ l1
      refine Classical.byContradiction fun h9 => ?_
      have e1 : (aF (ouL m cur (T.getD p nd0).2.1)).getD (pos (aF (ouL m cur (T.getD p nd0).2.1)) (m.out s (T.getD p nd0).2.1)) 0 = (aF (ouL m cur (T.getD p nd0).2.1))[pos (aF (ouL m cur (T.getD p nd0).2.1)) (m.out s (T.getD p nd0).2.1)]'(by omega) := jb (by omega)
      have e2 : (aF (ouL m cur (T.getD p nd0).2.1)).getD (pos (aF (ouL m cur (T.getD p nd0).2.1)) (m.out u (T.getD p nd0).2.1)) 0 = (aF (ouL m cur (T.getD p nd0).2.1))[pos (aF (ouL m cur (T.getD p nd0).2.1)) (m.out u (T.getD p nd0).2.1)]'(by omega) := jb (by omega)
      rcases Nat.lt_or_eq_of_le (Nat.le_of_not_lt h9) with h8 | h8
      · have := List.pairwise_iff_getElem.1 hso _ _ (by omega) (by omega) h8
        omega
      · rw [h8, k2] at l2; omega
theorem yT {T : List ba} {r : Nat → Int} {p : Nat} : ∀ {K : List dM} {n : Int}, n ≤ K.foldl (ee T r p) n ∧ ∀ k ∈ K, (p : Int) < k.2.1 → k.2.1 < T.length → 1 + r k.2.1.toNat ≤ K.foldl (ee T r p) n
  | [], n => ⟨Int.le_refl _, fun k hk => by cases hk⟩
  | x :: K, n => by
    obtain ⟨h1, h2⟩ := yT (T := T) (r := r) (p := p) (K := K) (n := ee T r p n x)
    have h3 : n ≤ ee T r p n x := by unfold ee; split <;> omega
    refine ⟨by rw [List.foldl_cons]; omega, fun k hk a b => ?_⟩
    rw [List.foldl_cons]
    rcases List.mem_cons.1 hk with rfl | hk
    · have h4 : 1 + r k.2.1.toNat ≤ ee T r p n k := by unfold ee; rw [if_pos ⟨a, b⟩]; omega
      omega
    · exact h2 k hk a b
theorem oh {m : Mly} (hm : MOK m) {T : List ba} : ∀ (f g p n : Nat) (ini cur : List Int) (q : Nat), rtF m T g p ini cur = some n → ini.length = cur.length → d7 m cur → q < cur.length → T.length ≤ f + p →
    p ≤ (wdG m T f p (cur.getD q 0)).2 ∧ (wdG m T f p (cur.getD q 0)).2 < n ∧ (T.getD (wdG m T f p (cur.getD q 0)).2 nd0).2.1 = -1 ∧ ini.getD q 0 ∈ (T.getD (wdG m T f p (cur.getD q 0)).2 nd0).1 ∧
      (((wdG m T f p (cur.getD q 0)).1.length : Nat) : Int) ≤ dpA T p ∧ dm m (wdG m T f p (cur.getD q 0)).1 ∧ (T.getD (wdG m T f p (cur.getD q 0)).2 nd0).1.length ≤ m.nx.length
  | 0, g, p, n, ini, cur, q, hr, hil, hst, hq, hf => by have := eD hr; omega
  | f + 1, 0, p, n, ini, cur, q, hr, hil, hst, hq, hf => by cases hr
  | f + 1, g + 1, p, n, ini, cur, q, hr, hil, hst, hq, hf => by
    have hrg := eD hr
    obtain ⟨hn, hk⟩ := lH hr
    rcases hk with ⟨h1, _, h3⟩ | ⟨h1, h2, _, _⟩
    · rw [kd (by omega)]
      refine ⟨Nat.le_refl _, by show p < n; omega, h1, ?_, ?_, fun x hx => (by cases hx), ?_⟩
      · show _ ∈ (T.getD p nd0).1
        rw [hn.2.1]; exact bh (by omega)
      · have := (pe hn.1).1
        show ((0 : Nat) : Int) ≤ _
        omega
      · show (T.getD p nd0).1.length ≤ _
        rw [hn.2.1, hil]
        exact eM m.nx.length cur hn.2.2 fun x hx => hst x hx
    · have h0 : ¬ (T.getD p nd0).2.1 < 0 := by omega
      obtain ⟨e, n2, a1, a2, a3, a4, ⟨k, ak, ak2⟩, _⟩ := t8 hr h0 (bh hq)
      obtain ⟨j, b1, b2, b3, b4⟩ := pM (m := m) (ini := ini) (a := (T.getD p nd0).2.1) hq
      have ih := oh hm f g e n2 _ _ j a4 (fk ..) (jy hm ⟨h1, h2⟩ hst) b1 (by omega)
      rw [b3, b4] at ih
      obtain ⟨c1, c2, c3, c4, c5, c6, c7⟩ := ih
      rw [j5 h0, a1, ah]
      have he := eD a4
      refine ⟨by show p ≤ _; omega, by show _ < n; omega, c3, c4, ?_, fun x hx => ?_, c7⟩
      · have h9 := (yT (T := T) (r := dpA T) (p := p) (K := (T.getD p nd0).2.2.1) (n := 0)).2 k ak (by omega) (by omega)
        rw [← wE hn.1, ak2, ah] at h9
        simp only [aw]
        omega
      · rcases List.mem_cons.1 hx with rfl | hx
        · exact ⟨h1, h2⟩
        · exact c6 x hx
def dN : List Int → List Int → Nat
  | a :: v, b :: w => if a = b then dN v w + 1 else 0
  | _, _ => 0
theorem sk : ∀ v w : List Int, dN v w ≤ v.length ∧ dN v w ≤ w.length
  | [], _ => ⟨Nat.zero_le _, Nat.zero_le _⟩
  | _ :: _, [] => ⟨Nat.zero_le _, Nat.zero_le _⟩
  | a :: v, b :: w => by
    have := sk v w
    rw [dN]
    simp only [aw]
    split <;> omega
theorem nO : ∀ v : List Int, dN v v = v.length
  | [] => rfl
  | a :: v => by rw [dN, if_pos rfl, nO v]; rfl
theorem wy {m : Mly} (hm : MOK m) {T : List ba} : ∀ (f g p n : Nat) (ini cur : List Int) (q r : Nat), rtF m T g p ini cur = some n → ini.length = cur.length → d7 m cur → q < cur.length → r < cur.length → q ≠ r → T.length ≤ f + p →
    ((wdG m T f p (cur.getD q 0)).2 = (wdG m T f p (cur.getD r 0)).2 → (wdG m T f p (cur.getD q 0)).1 = (wdG m T f p (cur.getD r 0)).1 ∧ (m.go (cur.getD q 0) (wdG m T f p (cur.getD q 0)).1).2 = (m.go (cur.getD r 0) (wdG m T f p (cur.getD q 0)).1).2 ∧ (m.go (cur.getD q 0) (wdG m T f p (cur.getD q 0)).1).1 ≠ (m.go (cur.getD r 0) (wdG m T f p (cur.getD q 0)).1).1) ∧
    ((wdG m T f p (cur.getD q 0)).2 ≠ (wdG m T f p (cur.getD r 0)).2 → (m.go (cur.getD q 0) ((wdG m T f p (cur.getD q 0)).1.take (dN (wdG m T f p (cur.getD q 0)).1 (wdG m T f p (cur.getD r 0)).1))).2 ≠ (m.go (cur.getD r 0) ((wdG m T f p (cur.getD r 0)).1.take (dN (wdG m T f p (cur.getD q 0)).1 (wdG m T f p (cur.getD r 0)).1))).2)
  | 0, g, p, n, ini, cur, q, r, hr, hil, hst, hq, hq2, hne, hf => by have := eD hr; omega
  | f + 1, 0, p, n, ini, cur, q, r, hr, hil, hst, hq, hq2, hne, hf => by cases hr
  | f + 1, g + 1, p, n, ini, cur, q, r, hr, hil, hst, hq, hq2, hne, hf => by
    have hrg := eD hr
    obtain ⟨hn, hk⟩ := lH hr
    rcases hk with ⟨h1, _, h3⟩ | ⟨h1, h2, _, _⟩
    · rw [kd (by omega), kd (by omega)]
      exact ⟨fun _ => ⟨rfl, rfl, fun h9 => hne (gP hn.2.2 hq hq2 h9)⟩, fun h9 => absurd rfl h9⟩
    · have h0 : ¬ (T.getD p nd0).2.1 < 0 := by omega
      obtain ⟨e, n2, a1, a2, a3, a4, _, a6⟩ := t8 hr h0 (bh hq)
      obtain ⟨e', n2', a1', a2', a3', a4', _, a6'⟩ := t8 hr h0 (bh hq2)
      obtain ⟨j, b1, b2, b3, b4⟩ := pM (m := m) (ini := ini) (a := (T.getD p nd0).2.1) hq
      obtain ⟨j', b1', b2', b3', b4'⟩ := pM (m := m) (ini := ini) (a := (T.getD p nd0).2.1) hq2
      by_cases ho : m.out (cur.getD q 0) (T.getD p nd0).2.1 = m.out (cur.getD r 0) (T.getD p nd0).2.1
      · rw [← ho] at a1' b1' b2' b3' b4'
        have hjj : j ≠ j' := fun h9 => by subst h9; rw [b2] at b2'; omega
        have ih := wy hm f g e n2 _ _ j j' a4 (fk ..) (jy hm ⟨h1, h2⟩ hst) b1 b1' hjj (by omega)
        rw [b4, b4'] at ih
        rw [j5 h0, j5 h0, ← ho, a1, ah]
        refine ⟨fun h9 => ?_, fun h9 => ?_⟩
        · obtain ⟨c1, c2, c3⟩ := ih.1 h9
          refine ⟨by rw [c1], ?_, ?_⟩
          · rw [dz, dz, ho]; simp only [c2]
          · rw [dz, dz]; exact c3
        · have c1 := ih.2 h9
          rw [dN, if_pos rfl, cQ, cQ, dz, dz, ho]
          intro h8
          exact c1 (List.cons.inj h8).2
      · have w1 := oh hm f g e n2 _ _ j a4 (fk ..) (jy hm ⟨h1, h2⟩ hst) b1 (by have := eD a4; omega)
        have w2 := oh hm f g e' n2' _ _ j' a4' (fk ..) (jy hm ⟨h1, h2⟩ hst) b1' (by have := eD a4'; omega)
        rw [b4] at w1
        rw [b4'] at w2
        rw [j5 h0, j5 h0, a1, a1', ah, ah]
        refine ⟨fun h9 => ?_, fun _ => ?_⟩
        · exfalso
          have h9' : (wdG m T f e (m.nxt (cur.getD q 0) (T.getD p nd0).2.1)).2 = (wdG m T f e' (m.nxt (cur.getD r 0) (T.getD p nd0).2.1)).2 := h9
          rcases Int.lt_or_lt_of_ne ho with h8 | h8
          · have := a6 _ (bh hq2) h8
            rw [a1'] at this
            omega
          · have := a6' _ (bh hq) h8
            rw [a1] at this
            omega
        · rw [dN, if_pos rfl, cQ, cQ, dz, dz]
          intro h8
          exact ho (List.cons.inj h8).1
/-plain-/
structure K12 (m : Mly) : Prop where
  ok : MOK m
  n8 : m.nx.length ≤ 8
  ck : dL m = 0
theorem Av {m : Mly} (h1 : uy m = true) (h2 : jh m = 0) : K12 m := by
  have h3 : dL m = 0 := by rw [yI]; exact h2
  exact ⟨eI (qn h3), (Ae h1).1, h3⟩
def dk (m : Mly) (s : Int) : List Int := (i9 m (cG m) s).1
def fU (m : Mly) (s : Int) : Nat := (i9 m (cG m) s).2
theorem ws {m : Mly} (h : K12 m) : dr m = 0 := by
  have := (iX h.ok h.n8).1
  unfold dr; rw [h.ck, if_neg (by simp), if_neg (by omega)]
theorem wD {m : Mly} (h : K12 m) : f0 m (cG m) = 0 := by
  have h1 := iX h.ok h.n8
  unfold f0
  rw [h.ck, if_neg (by simp), if_neg]
  exact fun h9 => h9.elim (fun h8 => by omega) (fun h8 => h8 h1.2.1)
theorem BD {m : Mly} (h : K12 m) {s : Int} (h0 : 0 ≤ s) (h1 : s < m.nx.length) : gB m (cG m) s = 0 := by
  unfold gB; rw [wD h, if_neg (by simp), if_neg (by omega)]
theorem uv {m : Mly} (h : K12 m) {s : Int} (h0 : 0 ≤ s) (h1 : s < m.nx.length) :
    fU m s < (cG m).length ∧ ((cG m).getD (fU m s) nd0).2.1 = -1 ∧ s ∈ ((cG m).getD (fU m s) nd0).1 ∧ ((dk m s).length : Int) ≤ dpT (cG m) ∧ dm m (dk m s) ∧ (dk m s).length ≤ 255 ∧ ((cG m).getD (fU m s) nd0).1.length ≤ 8 := by
  obtain ⟨_, g2, _, g4⟩ := iX h.ok h.n8
  have hs : (rgI m.nx.length).getD s.toNat 0 = s := by
    unfold rgI; rw [List.getD, List.getElem?_map, List.getElem?_range (by omega)]
    show ((s.toNat : Nat) : Int) = s
    omega
  have h2 := oh h.ok (cG m).length _ 0 _ _ _ s.toNat g2 rfl (kA m) (by rw [d5]; omega) (by omega)
  rw [hs] at h2
  obtain ⟨a1, a2, a3, a4, a5, a6, a7⟩ := h2
  refine ⟨a2, a3, a4, ?_, a6, g4 _ s h0 h1, Nat.le_trans a7 h.n8⟩
  unfold dpT
  rw [if_neg (by have : (wdG m (cG m) (cG m).length 0 s).2 < (cG m).length := a2; omega)]
  exact a5
theorem uM {m : Mly} (h : K12 m) {s u : Int} (h0 : 0 ≤ s) (h1 : s < m.nx.length) (h2 : 0 ≤ u) (h3 : u < m.nx.length) (hne : s ≠ u) :
    (fU m s = fU m u → dk m s = dk m u ∧ (m.go s (dk m s)).2 = (m.go u (dk m s)).2 ∧ (m.go s (dk m s)).1 ≠ (m.go u (dk m s)).1) ∧
    (fU m s ≠ fU m u → (m.go s ((dk m s).take (dN (dk m s) (dk m u)))).2 ≠ (m.go u ((dk m u).take (dN (dk m s) (dk m u)))).2) := by
  obtain ⟨_, g2, _, _⟩ := iX h.ok h.n8
  have hs : ∀ s : Int, 0 ≤ s → s < m.nx.length → (rgI m.nx.length).getD s.toNat 0 = s := fun s a b => by
    unfold rgI; rw [List.getD, List.getElem?_map, List.getElem?_range (by omega)]
    show ((s.toNat : Nat) : Int) = s
    omega
  have h4 := wy h.ok (cG m).length _ 0 _ _ _ s.toNat u.toNat g2 rfl (kA m) (by rw [d5]; omega) (by rw [d5]; omega) (by omega) (by omega)
  rw [hs s h0 h1, hs u h2 h3] at h4
  exact h4
theorem xf {m : Mly} (h : K12 m) {s u : Int} (h0 : 0 ≤ s) (h1 : s < m.nx.length) (h2 : 0 ≤ u) (h3 : u < m.nx.length) (hne : s ≠ u) (e : fU m s = fU m u) :
    (m.go s ((dk m s).take (dN (dk m s) (dk m u)))).2 = (m.go u ((dk m u).take (dN (dk m s) (dk m u)))).2 := by
  obtain ⟨t1, t2, _⟩ := (uM h h0 h1 h2 h3 hne).1 e
  rw [← t1, nO, aL]; exact t2
theorem AT {m : Mly} {w : List Int} (h : dm m w) : ∀ i : Nat, i < w.length → 0 ≤ w.getD i 0 ∧ w.getD i 0 < m.inp := fun i hi => h _ (bh hi)
theorem ua {m : Mly} {w : List Int} {k : Nat} (h : dm m w) : dm m (w.take k) := fun x hx => h x (List.mem_of_mem_take hx)
theorem xZ {m : Mly} (h : K12 m) {s : Int} (h0 : 0 ≤ s ∧ s < m.nx.length) {w : List Int} (hw : dm m w) (hl : w.length ≤ 1024) : f8 m s w = 0 := by
  have hi1 := h.ok.i1
  have hi2 := h.ok.i2
  unfold f8
  rw [if_neg (by rw [dq h.ok]; simp), if_neg (by omega)]
  exact xA hi1 (by omega) ⟨hl, AT hw⟩
/-plain-/
theorem uC {x y : Nat} {P Q : List Int} [Decidable (P = Q)] (h1 : x = y → P = Q) (h2 : x ≠ y → P ≠ Q) (h : ¬ decide ((x : Int) = (y : Int)) = decide (P = Q)) : False := by
  apply h
  rw [decide_eq_decide]
  constructor
  · intro e; exact h1 (by omega)
  · intro e; exact Classical.byContradiction fun h9 => h2 (fun e2 => h9 (by rw [e2])) e
/-plain-/
theorem mM : ∀ {v w : List Int} {k : Nat}, k < v.length → k < w.length → (∀ j, j < k → v.getD j 0 = w.getD j 0) → ¬ v.getD k 0 = w.getD k 0 → dN v w = k
  | a :: v, b :: w, 0, _, _, _, h => by
    have h' : ¬ a = b := h
    rw [dN, if_neg h']
  | a :: v, b :: w, k + 1, h1, h2, hj, h => by
    have h0 : a = b := hj 0 (by omega)
    rw [dN, if_pos h0, mM (k := k) (by simpa using h1) (by simpa using h2) (fun j hh => by simpa [List.getD] using hj (j + 1) (by omega)) (by simpa [List.getD] using h)]
  | [], _, _, h, _, _, _ => by simp at h
  | _ :: _, [], _, _, h, _, _ => by simp at h
theorem lr : ∀ {v w : List Int} {k : Nat}, k ≤ v.length → k ≤ w.length → (∀ j, j < k → v.getD j 0 = w.getD j 0) → (k = v.length ∨ k = w.length) → dN v w = k
  | [], _, k, h1, _, _, _ => by simp only [aG] at h1; rw [show k = 0 by omega]; rfl
  | _ :: _, [], k, _, h2, _, _ => by simp only [aG] at h2; rw [show k = 0 by omega]; rfl
  | a :: v, b :: w, 0, _, _, _, h => by simp at h
  | a :: v, b :: w, k + 1, h1, h2, hj, h => by
    have h0 : a = b := hj 0 (by omega)
    rw [dN, if_pos h0, lr (k := k) (by simpa using h1) (by simpa using h2) (fun j hh => by simpa [List.getD] using hj (j + 1) (by omega)) (by simpa using h)]
end Go.AV
namespace Go.Proofs.Ytoahhklogohehaa
open Go Go.AV
open Nat renaming reduceEqDiff → aa, reduceAdd → V, reduceLeDiff → ad, reduceLT → ag, reduceMul → af, reduceSub → ae
open List renaming set_cons_zero → cv, set_cons_succ → cq, getD_cons_zero → au, length_append → ar, map_cons → aH, cons_append → aT, map_nil → bm, length_cons → aw, nil_append → bg, take_succ_cons → cQ, length_nil → aG, length_map → aD, length_replicate → bj, take_length → aL, mem_cons_self → aR, mem_cons_of_mem → aJ
open Int renaming toNat_natCast → ah
theorem zT : type_of% (And.intro Try.ea159 (And.intro Try.el107 (And.intro Try.el118 (And.intro Try.el129 (And.intro Try.el22 (And.intro Try.el27 (And.intro Try.el41 (And.intro Try.el50 (And.intro Try.el91 (And.intro Try.fl58 (And.intro Try.mk115 (And.intro Try.mk157 (And.intro Try.sa159 (And.intro Try.st117 (And.intro Try.st24 (And.intro Try.st29 (And.intro Try.st52 (And.intro Try.st58 (And.intro Try.st62 (And.intro Try.st66 (And.intro Try.st82 (And.intro Try.st84 (And.intro Try.td1 (And.intro Try.td102 (And.intro Try.td107 (And.intro Try.td117 (And.intro Try.td118 (And.intro Try.td129 (And.intro Try.td132 (And.intro Try.td159 (And.intro Try.td2 (And.intro Try.td22 (And.intro Try.td24 (And.intro Try.td27 (And.intro Try.td29 (And.intro Try.td3 (And.intro Try.td30 (And.intro Try.td4 (And.intro Try.td41 (And.intro Try.td5 (And.intro Try.td50 (And.intro Try.td52 (And.intro Try.td58 (And.intro Try.td60 (And.intro Try.td62 (And.intro Try.td66 (And.intro Try.td77 (And.intro Try.td80 (And.intro Try.td82 (And.intro Try.td84 (And.intro Try.td9 Try.td91))))))))))))))))))))))))))))))))))))))))))))))))))) :=
  And.intro Try.ea159 (And.intro Try.el107 (And.intro Try.el118 (And.intro Try.el129 (And.intro Try.el22 (And.intro Try.el27 (And.intro Try.el41 (And.intro Try.el50 (And.intro Try.el91 (And.intro Try.fl58 (And.intro Try.mk115 (And.intro Try.mk157 (And.intro Try.sa159 (And.intro Try.st117 (And.intro Try.st24 (And.intro Try.st29 (And.intro Try.st52 (And.intro Try.st58 (And.intro Try.st62 (And.intro Try.st66 (And.intro Try.st82 (And.intro Try.st84 (And.intro Try.td1 (And.intro Try.td102 (And.intro Try.td107 (And.intro Try.td117 (And.intro Try.td118 (And.intro Try.td129 (And.intro Try.td132 (And.intro Try.td159 (And.intro Try.td2 (And.intro Try.td22 (And.intro Try.td24 (And.intro Try.td27 (And.intro Try.td29 (And.intro Try.td3 (And.intro Try.td30 (And.intro Try.td4 (And.intro Try.td41 (And.intro Try.td5 (And.intro Try.td50 (And.intro Try.td52 (And.intro Try.td58 (And.intro Try.td60 (And.intro Try.td62 (And.intro Try.td66 (And.intro Try.td77 (And.intro Try.td80 (And.intro Try.td82 (And.intro Try.td84 (And.intro Try.td9 Try.td91))))))))))))))))))))))))))))))))))))))))))))))))))
def Mof (d : Int × (Int × (List (List Int) × (List (List Int) × Unit)))) : Mly := ⟨d.1, d.2.1, d.2.2.1, d.2.2.2.1⟩
end Go.Proofs.Ytoahhklogohehaa
