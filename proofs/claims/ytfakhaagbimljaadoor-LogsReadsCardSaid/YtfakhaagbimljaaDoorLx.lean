/- Helpers for walks: rows filled one by one, arrays of numbers, tables of numbered keys. -/
import Derived.Test.YtfakhaagbimljaaDoorLw
set_option linter.unusedSimpArgs false
set_option linter.unusedVariables false
namespace Go.AV

def ez {α : Type} [DecidableEq α] (l : List α) (x : α) : List α := if x ∈ l then l else l ++ [x]
theorem lG {α : Type} [DecidableEq α] {l : List α} {x : α} (h : x ∈ l) : ez l x = l := by unfold ez; rw [if_pos h]
theorem jf {α : Type} [DecidableEq α] {l : List α} {x : α} (h : x ∉ l) : ez l x = l ++ [x] := by unfold ez; rw [if_neg h]
theorem rE {α : Type} [DecidableEq α] {l : List α} {t x : α} : x ∈ ez l t ↔ x ∈ l ∨ x = t := by
  unfold ez
  split
  · rename_i h
    constructor
    · exact .inl
    · rintro (h1 | rfl)
      · exact h1
      · exact h
  · simp
theorem nN {α : Type} [DecidableEq α] {l : List α} (h : l.Nodup) (x : α) : (ez l x).Nodup := by
  unfold ez
  split
  · exact h
  · rename_i hx
    rw [List.nodup_append]
    refine ⟨h, by simp, fun a ha b hb => ?_⟩
    simp at hb; subst hb
    intro e; subst e; exact hx ha
theorem pz {α : Type} [DecidableEq α] (r : List α) : ∀ l : List α, ∃ k, r.foldl ez l = l ++ k := by
  induction r with
  | nil => intro l; exact ⟨[], by simp⟩
  | cons t r ih =>
    intro l
    obtain ⟨k2, h2⟩ := ih (ez l t)
    by_cases h : t ∈ l
    · rw [lG h] at h2
      exact ⟨k2, by simp only [List.foldl_cons, lG h]; exact h2⟩
    · rw [jf h] at h2
      exact ⟨t :: k2, by simp only [List.foldl_cons, jf h]; rw [h2]; simp⟩
def rR {α : Type} [DecidableEq α] (f : Nat → α) (k : Nat) : List α := ((List.range k).map f).foldl ez []
def pos {α : Type} [DecidableEq α] : List α → α → Nat
  | [], _ => 0
  | y :: l, x => if y = x then 0 else pos l x + 1
theorem ni {α : Type} [DecidableEq α] {x : α} : ∀ {l : List α}, x ∈ l → pos l x < l.length
  | [], h => by cases h
  | y :: l, h => by
    simp only [pos]
    split
    · simp
    · rename_i e
      rcases List.mem_cons.1 h with h | h
      · exact absurd h.symm e
      · have := ni h
        simp; omega
theorem o7 {α : Type} [DecidableEq α] {x : α} : ∀ {l : List α}, x ∉ l → pos l x = l.length
  | [], _ => rfl
  | y :: l, h => by
    simp only [List.mem_cons, not_or] at h
    simp only [pos]
    rw [if_neg (Ne.symm h.1), o7 h.2]; rfl
theorem kE {α : Type} [DecidableEq α] {x : α} : ∀ {l : List α}, x ∈ l → l[pos l x]? = some x
  | [], h => by cases h
  | y :: l, h => by
    simp only [pos]
    split
    · rename_i e; simp [e]
    · rename_i e
      rcases List.mem_cons.1 h with h | h
      · exact absurd h.symm e
      · simpa using kE h
theorem fV {α : Type} [DecidableEq α] {x : α} : ∀ {l : List α} (r : List α), x ∈ l → pos (l ++ r) x = pos l x
  | [], _, h => by cases h
  | y :: l, r, h => by
    simp only [List.cons_append, pos]
    split
    · rfl
    · rename_i e
      rcases List.mem_cons.1 h with h | h
      · exact absurd h.symm e
      · rw [fV r h]
theorem qz {α : Type} [DecidableEq α] {x : α} {l : List α} (h : x ∉ l) : pos (l ++ [x]) x = l.length := by
  induction l with
  | nil => simp [pos]
  | cons y l ih =>
    simp only [List.mem_cons, not_or] at h
    simp only [List.cons_append, pos]
    rw [if_neg (Ne.symm h.1), ih h.2]; rfl
open Go Go.RowKit in
theorem rn {C : Ctx} {Q : Exit → St → Prop} {s : St} {c : Code} (k : Nat) {ob : AO} (hk : s.L[k]? = some ob) (h : AWP C c Q { env := s.env, L := s.L.set k (.dead ob.ver) }) : AWP C c Q s := by
  intro σ a w hr
  have hlt : k < s.L.length := (List.getElem?_eq_some_iff.1 hk).1
  have hI := cv (C := C) (L' := s.L.set k (.dead ob.ver)) (σ' := σ) (w' := w) k hr.inv (Nat.le_refl _) rfl rfl rfl (fun _ _ _ => rfl) (fun j hj => by rw [List.getElem?_set_ne (Ne.symm hj)]) (fun _ _ => rfl)
    (fun ob' e => by rw [hk] at e; cases e; exact ⟨.dead ob.ver, by simp [hlt], Nat.le_refl _, fun h => by cases h⟩)
    (fun b ⟨ob', e1, e2, _⟩ => by simp [hlt] at e1; subst e1; cases e2)
    (fun _ _ ob' e => by simp [hlt] at e; subst e; trivial)
  exact h σ a w ⟨hI.1, fun t => hI.2.rv (hr.env t), hr.size, hr.defers, hr.pres.trans hI.2⟩

section
variable {e : Go.TypeId} {f : Nat → List Bool} {n i : Nat} {X : List AO} {x : AO}
end

open Go Go.RowKit in
theorem jH {P : Program} {L0 : List AO} {f : FuncId} {args args' : List AV} {r : AV} (he : args.map (fzV L0) = args') (hnt : args.all tk = true) (h : aW P f args' r) (hs : pm r = true) : cu P L0 f args { av := r, fp := args.flatMap fpV } :=
  oY hnt (by rw [he]; exact h) hs

section
variable {f : Nat → Nat} (hf : ∀ x y, f x = f y → x = y)
include hf
end
theorem uu {C : Ctx} {Q : Exit → St → Prop} {s : St} {c : Code} (k : Nat) {v v' : AV} (hk : lkp s.env k = v) (hv : VLE v v')
    (h : AWP C c Q { env := (k, v') :: s.env, L := s.L }) : AWP C c Q s := by
  intro σ a w hr
  refine h σ a w ⟨hr.inv, fun t => ?_, hr.size, hr.defers, hr.pres⟩
  simp only [lkp]
  by_cases e : t = k
  · rw [if_pos e, e]
    have := hr.env k
    rw [hk] at this
    exact hv _ _ _ _ _ this
  · rw [if_neg e]; exact hr.env t
theorem eC {C : Ctx} {Q : Exit → St → Prop} {s : St} {c : Code} (k : Nat) (t : Ty) (hk : lkp s.env k = .one .nils)
    (h : AWP C c Q { env := (k, .one (.list t ([] : List t.den))) :: s.env, L := s.L }) : AWP C c Q s := uu k hk (iv (br rfl)) h
def frC (k ver : Nat) (t : Ty) (xs : List t.den) : AC → AC
  | .row k' v => if k' = k ∧ v = ver then .list t xs else .row k' v
  | c => c
open Go Go.RowKit in
theorem fP {C : Ctx} {Q : Exit → St → Prop} {s : St} {c : Code} (k m : Nat) {t : Ty} {e T : TypeId} {ver : Nat} {xs : List t.den} {cs : List AC} (hk : s.L[k]? = some (.row t e ver xs)) (hm : s.L[m]? = some (.vars T cs))
    (h : AWP C c Q { env := s.env.map fun x => (x.1, match x.2 with | .one (.row k' v) => if k' = k ∧ v = ver then .one (.list t xs) else .one (.row k' v) | v => v), L := (s.L.set k (.dead ver)).set m (.vars T (cs.map (frC k ver t xs))) }) : AWP C c Q s := by
  intro σ a w hr
  have hkm : m ≠ k := by rintro rfl; rw [hk] at hm; cases hm
  have hlt : k < s.L.length := (List.getElem?_eq_some_iff.1 hk).1
  have hltm : m < s.L.length := (List.getElem?_eq_some_iff.1 hm).1
  have hI := cv (C := C) (L' := s.L.set k (.dead ver)) (σ' := σ) (w' := w) k hr.inv (Nat.le_refl _) rfl rfl rfl (fun _ _ _ => rfl) (fun j hj => by rw [List.getElem?_set_ne (Ne.symm hj)]) (fun _ _ => rfl)
    (fun ob e => by rw [hk] at e; cases e; exact ⟨.dead ver, by simp [hlt], Nat.le_refl _, fun h => by cases h⟩)
    (fun b ⟨ob, e1, e2, _⟩ => by simp [hlt] at e1; subst e1; cases e2)
    (fun _ _ ob e => by simp [hlt] at e; subst e; trivial)
  have key : ∀ u, RC C s.L σ w (.row k ver) u → RC C (s.L.set k (.dead ver)) σ w (.list t xs) u := by
    intro u h1
    obtain ⟨h3, ob, h4, h5, h6⟩ := h1
    rw [hk] at h4; cases h4
    obtain ⟨_, h7⟩ := h6 rfl rfl
    refine ⟨h3, ?_⟩
    obtain ⟨flat, h8, h9, h10⟩ := hr.inv.ob k _ hk
    show Dat _ w (.list t) xs [_]
    rw [h7]
    have hown : ∀ b, avd C (s.L.set k (.dead ver)) σ b → avd C s.L σ b := by
      rintro b (hx | ⟨j, ob, e1, e2, e3⟩)
      · exact .inl hx
      · by_cases ej : j = k
        · subst ej; simp [hlt] at e1; subst e1; cases e2
        · rw [List.getElem?_set_ne (Ne.symm ej)] at e1
          exact .inr ⟨j, ob, e1, e2, e3⟩
    rcases h8.2 with ⟨e1, e2⟩ | ⟨g, cap, cur, e1, _, e3, e4, e5, e6, e7⟩
    · rw [e1]
      have : xs = [] := List.eq_nil_of_length_eq_zero e2
      subst this
      exact db t
    · rw [e1]
      refine ⟨some ⟨g, 0, none⟩, cap, rfl, e4, ⟨e5, fun h => by cases h⟩, fun _ => ⟨g, 0, rfl, ?_, (Array.getElem?_eq_some_iff.1 e3).1, fun i hi => ⟨_, (h10 i hi).length, fun j hj => ?_, (h10 i hi).keep (Nat.le_refl _) (fun _ _ _ => rfl) (fun b _ hb => hown b hb)⟩⟩⟩
      · have hg : own s.L σ k g := ⟨_, hk, rfl, by rw [e1]; rfl⟩
        rintro (hx | ⟨j, ob, q1, q2, q3⟩)
        · exact (hr.inv.off k g hg).2 hx
        · by_cases ej : j = k
          · subst ej; simp [hlt] at q1; subst q1; cases q2
          · rw [List.getElem?_set_ne (Ne.symm ej)] at q1
            exact ej (hr.inv.inj j k g ⟨ob, q1, q2, q3⟩ hg)
      · have hm : (i + 1) * t.size ≤ xs.length * t.size := Nat.mul_le_mul_right _ hi
        rw [Nat.add_mul, Nat.one_mul] at hm
        rw [cT e3, List.getElem?_take_of_lt hj, List.getElem?_drop, ← e7, List.getElem?_take_of_lt (by omega)]
        simp
  have hcell : ∀ c u, RC C s.L σ w c u → RC C (s.L.set k (.dead ver)) σ w (frC k ver t xs c) u := by
    intro c u hc
    cases c with
    | row k' v =>
      simp only [frC]
      split
      · rename_i hh; obtain ⟨rfl, rfl⟩ := hh; exact key u hc
      · exact hI.2 _ _ hc
    | _ => exact hI.2 _ _ hc
  have hm1 : (s.L.set k (.dead ver))[m]? = some (.vars T cs) := by rw [List.getElem?_set_ne (Ne.symm hkm)]; exact hm
  have hI2 := cv (C := C) (L' := (s.L.set k (.dead ver)).set m (.vars T (cs.map (frC k ver t xs)))) (σ' := σ) (w' := w) m hI.1 (Nat.le_refl _) rfl rfl rfl (fun _ _ _ => rfl) (fun j hj => by rw [List.getElem?_set_ne (Ne.symm hj)]) (fun _ _ => rfl)
    (fun ob e => by rw [hm1] at e; cases e; exact ⟨.vars T (cs.map (frC k ver t xs)), by simp [hltm], Nat.le_refl _, fun _ _ => ⟨rfl, rfl, rfl, trivial⟩⟩)
    (fun b ⟨ob, e1, e2, e3⟩ => .inl ⟨.vars T cs, hm1, rfl, e3⟩)
    (fun hp _ ob e => by
      simp [hltm] at e; subst e
      obtain ⟨b, vs, q1, q2, q3⟩ := hr.inv.ob m _ hm
      exact ⟨b, vs, q1, q2, q3.mapL fun c u hc => hp _ _ (hcell c u hc)⟩)
  refine h σ a w ⟨hI2.1, fun t' => ?_, hr.size, hr.defers, (hr.pres.trans hI.2).trans hI2.2⟩
  have hlook : ∀ env : Env, lkp (env.map fun x => (x.1, match x.2 with | .one (.row k' v) => if k' = k ∧ v = ver then AV.one (.list t xs) else .one (.row k' v) | v => v)) t' =
      match lkp env t' with | .one (.row k' v) => if k' = k ∧ v = ver then AV.one (.list t xs) else .one (.row k' v) | v => v := by
    intro env
    induction env with
    | nil => rfl
    | cons x env ih =>
      obtain ⟨n, v⟩ := x
      simp only [List.map_cons, lkp]
      by_cases e : t' = n
      · simp only [e, if_true]
      · simp only [e, if_false]; exact ih
  show RV C _ σ w (lkp _ t') _
  rw [hlook]
  have h1 := hr.env t'
  have h2 := hI2.2.rv (hI.2.rv h1)
  split
  · rename_i k' v hv
    split
    · rename_i hkv
      obtain ⟨rfl, rfl⟩ := hkv
      rw [hv] at h1
      exact hI2.2 _ _ (key _ h1)
    · rw [hv] at h2; exact h2
  · exact h2
section
variable {C C' : Ctx} {L L' : List AO} {σ σ' : Sig} {w : World}
end
section
variable {C C' : Ctx} {L L' : List AO} {σ σ' : Sig} {w : World}
end
end Go.AV
