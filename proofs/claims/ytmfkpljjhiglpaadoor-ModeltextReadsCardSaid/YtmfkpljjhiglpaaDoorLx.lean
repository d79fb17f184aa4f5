/- Helpers for walks: rows filled one by one, arrays of numbers, tables of numbered keys. -/
import Derived.Test.YtmfkpljjhiglpaaDoorLw
set_option linter.unusedSimpArgs false
set_option linter.unusedVariables false
namespace Go.AV

def eP {α : Type} [DecidableEq α] (l : List α) (x : α) : List α := if x ∈ l then l else l ++ [x]
theorem kD {α : Type} [DecidableEq α] {l : List α} {x : α} (h : x ∈ l) : eP l x = l := by unfold eP; rw [if_pos h]
theorem j5 {α : Type} [DecidableEq α] {l : List α} {x : α} (h : x ∉ l) : eP l x = l ++ [x] := by unfold eP; rw [if_neg h]
theorem qW {α : Type} [DecidableEq α] {l : List α} {t x : α} : x ∈ eP l t ↔ x ∈ l ∨ x = t := by
  unfold eP
  split
  · rename_i h
    constructor
    · exact .inl
    · rintro (h1 | rfl)
      · exact h1
      · exact h
  · simp
theorem ox {α : Type} [DecidableEq α] {l : List α} (h : l.Nodup) (x : α) : (eP l x).Nodup := by
  unfold eP
  split
  · exact h
  · rename_i hx
    rw [List.nodup_append]
    refine ⟨h, by simp, fun a ha b hb => ?_⟩
    simp at hb; subst hb
    intro e; subst e; exact hx ha
theorem pI {α : Type} [DecidableEq α] (r : List α) : ∀ l : List α, ∃ k, r.foldl eP l = l ++ k := by
  induction r with
  | nil => intro l; exact ⟨[], by simp⟩
  | cons t r ih =>
    intro l
    obtain ⟨k2, h2⟩ := ih (eP l t)
    by_cases h : t ∈ l
    · rw [kD h] at h2
      exact ⟨k2, by simp only [List.foldl_cons, kD h]; exact h2⟩
    · rw [j5 h] at h2
      exact ⟨t :: k2, by simp only [List.foldl_cons, j5 h]; rw [h2]; simp⟩
def rO {α : Type} [DecidableEq α] (f : Nat → α) (k : Nat) : List α := ((List.range k).map f).foldl eP []
def pos {α : Type} [DecidableEq α] : List α → α → Nat
  | [], _ => 0
  | y :: l, x => if y = x then 0 else pos l x + 1
theorem dA {α : Type} [DecidableEq α] {x : α} : ∀ {l : List α}, x ∈ l → pos l x < l.length
  | [], h => by cases h
  | y :: l, h => by
    simp only [pos]
    split
    · simp
    · rename_i e
      rcases List.mem_cons.1 h with h | h
      · exact absurd h.symm e
      · have := dA h
        simp; omega
theorem o5 {α : Type} [DecidableEq α] {x : α} : ∀ {l : List α}, x ∉ l → pos l x = l.length
  | [], _ => rfl
  | y :: l, h => by
    simp only [List.mem_cons, not_or] at h
    simp only [pos]
    rw [if_neg (Ne.symm h.1), o5 h.2]; rfl
theorem oH {α : Type} [DecidableEq α] {x : α} : ∀ {l : List α}, x ∈ l → l[pos l x]? = some x
  | [], h => by cases h
  | y :: l, h => by
    simp only [pos]
    split
    · rename_i e; simp [e]
    · rename_i e
      rcases List.mem_cons.1 h with h | h
      · exact absurd h.symm e
      · simpa using oH h
theorem gq {α : Type} [DecidableEq α] {x : α} : ∀ {l : List α} (r : List α), x ∈ l → pos (l ++ r) x = pos l x
  | [], _, h => by cases h
  | y :: l, r, h => by
    simp only [List.cons_append, pos]
    split
    · rfl
    · rename_i e
      rcases List.mem_cons.1 h with h | h
      · exact absurd h.symm e
      · rw [gq r h]
theorem ry {α : Type} [DecidableEq α] {x : α} {l : List α} (h : x ∉ l) : pos (l ++ [x]) x = l.length := by
  induction l with
  | nil => simp [pos]
  | cons y l ih =>
    simp only [List.mem_cons, not_or] at h
    simp only [List.cons_append, pos]
    rw [if_neg (Ne.symm h.1), ih h.2]; rfl
open Go Go.RowKit in
theorem qA {C : Ctx} {Q : Exit → St → Prop} {s : St} {c : Code} (k : Nat) {ob : AO} (hk : s.L[k]? = some ob) (h : AWP C c Q { env := s.env, L := s.L.set k (.dead ob.ver) }) : AWP C c Q s := by
  intro σ a w hr
  have hlt : k < s.L.length := (List.getElem?_eq_some_iff.1 hk).1
  have hI := ex (C := C) (L' := s.L.set k (.dead ob.ver)) (σ' := σ) (w' := w) k hr.inv (Nat.le_refl _) rfl rfl rfl (fun _ _ _ => rfl) (fun j hj => by rw [List.getElem?_set_ne (Ne.symm hj)]) (fun _ _ => rfl)
    (fun ob' e => by rw [hk] at e; cases e; exact ⟨.dead ob.ver, by simp [hlt], Nat.le_refl _, fun h => by cases h⟩)
    (fun b ⟨ob', e1, e2, _⟩ => by simp [hlt] at e1; subst e1; cases e2)
    (fun _ _ ob' e => by simp [hlt] at e; subst e; trivial)
  exact h σ a w ⟨hI.1, fun t => hI.2.rv (hr.env t), hr.size, hr.defers, hr.pres.trans hI.2⟩

theorem oN (c : AC) : ∀ n, rep [c] n = List.replicate n c
  | 0 => rfl
  | n + 1 => by simp [rep, oN c n, List.replicate_succ]
section
variable {e : Go.TypeId} {f : Nat → List Bool} {n i : Nat} {X : List AO} {x : AO}
end

open Go Go.RowKit in
theorem mP {C : Ctx} {Q : Exit → St → Prop} {s : St} {c : Code} (h : AWP C c Q { env := s.env, L := s.L ++ [.dead 0] }) : AWP C c Q s := by
  intro σ a w hr
  have hd := cr (C := C) (L := s.L) (σ := σ) (w := w) (w' := w) (v := .undef) (fp := []) (u := undef) (g := undef) (ob := .dead 0) hr.inv (Nat.le_refl _) rfl rfl rfl (fun _ _ => rfl) (fun b hb => by cases hb) (fun _ => trivial) trivial
  obtain ⟨σ', d1, _, d3⟩ := hd
  have happ : app s.L { av := .undef, new := [.dead 0], fp := [] } = s.L ++ [.dead 0] := rfl
  rw [happ] at d1 d3
  exact h σ' a w ⟨d1, fun t => d3.rv (hr.env t), hr.size, hr.defers, hr.pres.trans d3⟩

section
variable {f : Nat → Nat} (hf : ∀ x y, f x = f y → x = y)
include hf
end
section
variable {C C' : Ctx} {L L' : List AO} {σ σ' : Sig} {w : World}
end
section
variable {C C' : Ctx} {L L' : List AO} {σ σ' : Sig} {w : World}
end
end Go.AV
