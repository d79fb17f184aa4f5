/- Helpers for walks: rows filled one by one, arrays of numbers, tables of numbered keys. -/
import Derived.Test.YtdkgcbhbpdbmnaaLw
set_option linter.unusedSimpArgs false
set_option linter.unusedVariables false
namespace Go.AV

/-- Added at the end, if it is not there. -/
def dD {α : Type} [DecidableEq α] (l : List α) (x : α) : List α := if x ∈ l then l else l ++ [x]
theorem eB {α : Type} [DecidableEq α] {l : List α} {x : α} (h : x ∈ l) : dD l x = l := by unfold dD; rw [if_pos h]
theorem dI {α : Type} [DecidableEq α] {l : List α} {x : α} (h : x ∉ l) : dD l x = l ++ [x] := by unfold dD; rw [if_neg h]
theorem kM {α : Type} [DecidableEq α] {l : List α} {t x : α} : x ∈ dD l t ↔ x ∈ l ∨ x = t := by
  unfold dD
  split
  · rename_i h
    constructor
    · exact .inl
    · rintro (h1 | rfl)
      · exact h1
      · exact h
  · simp
theorem nH {α : Type} [DecidableEq α] {r : List α} : ∀ {l : List α} {x : α}, x ∈ r.foldl dD l ↔ x ∈ l ∨ x ∈ r := by
  induction r with
  | nil => intro l x; simp
  | cons t r ih => intro l x; simp only [List.foldl_cons, ih, kM, List.mem_cons]; exact or_assoc
theorem mC {α : Type} [DecidableEq α] {l : List α} (h : l.Nodup) (x : α) : (dD l x).Nodup := by
  unfold dD
  split
  · exact h
  · rename_i hx
    rw [List.nodup_append]
    refine ⟨h, by simp, fun a ha b hb => ?_⟩
    simp at hb; subst hb
    intro e; subst e; exact hx ha
theorem nY {α : Type} [DecidableEq α] (r : List α) : ∀ l : List α, ∃ k, r.foldl dD l = l ++ k := by
  induction r with
  | nil => intro l; exact ⟨[], by simp⟩
  | cons t r ih =>
    intro l
    obtain ⟨k2, h2⟩ := ih (dD l t)
    by_cases h : t ∈ l
    · rw [eB h] at h2
      exact ⟨k2, by simp only [List.foldl_cons, eB h]; exact h2⟩
    · rw [dI h] at h2
      exact ⟨t :: k2, by simp only [List.foldl_cons, dI h]; rw [h2]; simp⟩
/-- The different values of a function, in the order of their first places. -/
def cz {α : Type} [DecidableEq α] (f : Nat → α) (k : Nat) : List α := ((List.range k).map f).foldl dD []
theorem cU {α : Type} [DecidableEq α] (f : Nat → α) (k : Nat) : cz f (k + 1) = dD (cz f k) (f k) := by
  unfold cz
  rw [List.range_succ, List.map_append, List.foldl_append]; rfl
theorem et {α : Type} [DecidableEq α] {f : Nat → α} {k : Nat} {x : α} : x ∈ cz f k ↔ ∃ i, i < k ∧ f i = x := by
  unfold cz
  rw [nH]
  simp [List.mem_map, List.mem_range]
theorem ij {α : Type} [DecidableEq α] (f : Nat → α) : ∀ k, (cz f k).length ≤ k
  | 0 => by simp [cz]
  | k + 1 => by
    rw [cU]
    have := ij f k
    unfold dD
    split <;> simp <;> omega
/-- The place of an element; the length, if it is not there. -/
def pos {α : Type} [DecidableEq α] : List α → α → Nat
  | [], _ => 0
  | y :: l, x => if y = x then 0 else pos l x + 1
theorem jm {α : Type} [DecidableEq α] {x : α} : ∀ {l : List α}, x ∈ l → pos l x < l.length
  | [], h => by cases h
  | y :: l, h => by
    simp only [pos]
    split
    · simp
    · rename_i e
      rcases List.mem_cons.1 h with h | h
      · exact absurd h.symm e
      · have := jm h
        simp; omega
theorem mo {α : Type} [DecidableEq α] {x : α} : ∀ {l : List α}, x ∉ l → pos l x = l.length
  | [], _ => rfl
  | y :: l, h => by
    simp only [List.mem_cons, not_or] at h
    simp only [pos]
    rw [if_neg (Ne.symm h.1), mo h.2]; rfl
theorem ff {α : Type} [DecidableEq α] {x : α} : ∀ {l : List α}, x ∈ l → l[pos l x]? = some x
  | [], h => by cases h
  | y :: l, h => by
    simp only [pos]
    split
    · rename_i e; simp [e]
    · rename_i e
      rcases List.mem_cons.1 h with h | h
      · exact absurd h.symm e
      · simpa using ff h
theorem rn {α : Type} [DecidableEq α] {l : List α} {x y : α} (hx : x ∈ l) (hy : y ∈ l) (h : pos l x = pos l y) : x = y := by
  have h1 := ff hx
  have h2 := ff hy
  rw [h, h2] at h1
  exact (Option.some.inj h1).symm
theorem eV {α : Type} [DecidableEq α] {x : α} : ∀ {l : List α} (r : List α), x ∈ l → pos (l ++ r) x = pos l x
  | [], _, h => by cases h
  | y :: l, r, h => by
    simp only [List.cons_append, pos]
    split
    · rfl
    · rename_i e
      rcases List.mem_cons.1 h with h | h
      · exact absurd h.symm e
      · rw [eV r h]
theorem kR {α : Type} [DecidableEq α] {x : α} {l : List α} (h : x ∉ l) : pos (l ++ [x]) x = l.length := by
  induction l with
  | nil => simp [pos]
  | cons y l ih =>
    simp only [List.mem_cons, not_or] at h
    simp only [List.cons_append, pos]
    rw [if_neg (Ne.symm h.1), ih h.2]; rfl
theorem ib {α : Type} (f : Nat → α) (d : α) {n i : Nat} (h : i < n) : ((List.range n).map f).getD i d = f i := by simp [List.getD, h]
theorem iG {α : Type} [DecidableEq α] (f : Nat → α) {i k : Nat} (h : i < k) : ∀ n, k ≤ n → pos (cz f n) (f i) = pos (cz f k) (f i)
  | 0, hn => by omega
  | n + 1, hn => by
    by_cases e : k = n + 1
    · subst e; rfl
    · rw [← iG f h n (by omega), cU]
      have hm : f i ∈ cz f n := et.2 ⟨i, by omega, rfl⟩
      unfold dD
      split
      · rfl
      · exact eV _ hm

theorem jN {α : Type} [DecidableEq α] : ∀ (l R : List α), l.Nodup → (∀ x, x ∈ l → x ∈ R) → l.length ≤ R.length
  | [], _, _, _ => by simp
  | x :: l, R, h, hs => by
    have hx : x ∈ R := hs x (by simp)
    rw [List.nodup_cons] at h
    have h1 := jN l (R.erase x) h.2 fun y hy => by
      have hne : y ≠ x := fun e => h.1 (e ▸ hy)
      exact (List.mem_erase_of_ne hne).2 (hs y (by simp [hy]))
    have h2 : (R.erase x).length + 1 = R.length := by
      rw [List.length_erase, if_pos (by simpa using hx)]
      have : 0 < R.length := List.length_pos_of_mem hx
      omega
    simp only [List.length_cons]; omega

open Go Go.RowKit in
/-- An object of which nothing more is asked. -/
theorem pJ {C : Ctx} {Q : Exit → St → Prop} {s : St} {c : Code} (k : Nat) {ob : AO} (hk : s.L[k]? = some ob) (h : AWP C c Q { env := s.env, L := s.L.set k (.dead ob.ver) }) : AWP C c Q s := by
  intro σ a w hr
  have hlt : k < s.L.length := (List.getElem?_eq_some_iff.1 hk).1
  have hI := cT (C := C) (L' := s.L.set k (.dead ob.ver)) (σ' := σ) (w' := w) k hr.inv (Nat.le_refl _) rfl rfl rfl (fun _ _ _ => rfl) (fun j hj => by rw [List.getElem?_set_ne (Ne.symm hj)]) (fun _ _ => rfl)
    (fun ob' e => by rw [hk] at e; cases e; exact ⟨.dead ob.ver, by simp [hlt], Nat.le_refl _, fun h => by cases h⟩)
    (fun b ⟨ob', e1, e2, _⟩ => by simp [hlt] at e1; subst e1; cases e2)
    (fun _ _ ob' e => by simp [hlt] at e; subst e; trivial)
  exact h σ a w ⟨hI.1, fun t => hI.2.rv (hr.env t), hr.size, hr.defers, hr.pres.trans hI.2⟩

open Go Go.RowKit in
/-- The last object is forgotten. -/
theorem fO {C : Ctx} {Q : Exit → St → Prop} {s : St} {c : Code} {L1 : List AO} {ob : AO} (hL : s.L = L1 ++ [ob]) (hB : C.bL = []) (he : s.env.all (fun x => fJ L1.length x.2) = true) (ho : L1.all (rd L1.length) = true)
    (h : AWP C c Q { env := s.env, L := L1 }) : AWP C c Q s := by
  refine pJ L1.length (ob := ob) (by rw [hL]; simp) ?_
  refine dP (L1 := L1) (ver := ob.ver) (n := L1.length) ?_ rfl (by rw [hB]; exact Nat.zero_le _) he ho h
  show s.L.set L1.length _ = _
  rw [hL, List.set_append]
  simp

section
variable {e : Go.TypeId} {f : Nat → List Bool} {n i : Nat} {X : List AO} {x : AO}
end

open Go Go.RowKit in
theorem mI {P : Program} {L0 : List AO} {f : FuncId} {args args' : List AV} {r : AV} (he : args.map (fzV L0) = args') (hnt : args.all ri = true) (h : bJ P f args' r) (hs : nV r = true) : fS P L0 f args { av := r, fp := args.flatMap fpV } :=
  nX hnt (by rw [he]; exact h) hs

open Go Go.RowKit in
/-- A place for an object that is to come. -/
theorem pE {C : Ctx} {Q : Exit → St → Prop} {s : St} {c : Code} (h : AWP C c Q { env := s.env, L := s.L ++ [.dead 0] }) : AWP C c Q s := by
  intro σ a w hr
  have hd := cM (C := C) (L := s.L) (σ := σ) (w := w) (w' := w) (v := .undef) (fp := []) (u := undef) (g := undef) (ob := .dead 0) hr.inv (Nat.le_refl _) rfl rfl rfl (fun _ _ => rfl) (fun b hb => by cases hb) (fun _ => trivial) trivial
  obtain ⟨σ', d1, _, d3⟩ := hd
  have happ : app s.L { av := .undef, new := [.dead 0], fp := [] } = s.L ++ [.dead 0] := rfl
  rw [happ] at d1 d3
  exact h σ' a w ⟨d1, fun t => d3.rv (hr.env t), hr.size, hr.defers, hr.pres.trans d3⟩

/-! ### other names for the objects change no order -/
section
variable {f : Nat → Nat} (hf : ∀ x y, f x = f y → x = y)
include hf
end
def frC (k ver : Nat) (t : Ty) (xs : List t.den) : AC → AC
  | .row k' v => if k' = k ∧ v = ver then .list t xs else .row k' v
  | c => c
open Go Go.RowKit in
/-- A row that is done with is a list, in a variable's cells too. -/
theorem cB {C : Ctx} {Q : Exit → St → Prop} {s : St} {c : Code} (k m : Nat) {t : Ty} {e T : TypeId} {ver : Nat} {xs : List t.den} {cs : List AC} (hk : s.L[k]? = some (.row t e ver xs)) (hm : s.L[m]? = some (.vars T cs))
    (h : AWP C c Q { env := s.env.map fun x => (x.1, match x.2 with | .one (.row k' v) => if k' = k ∧ v = ver then .one (.list t xs) else .one (.row k' v) | v => v), L := (s.L.set k (.dead ver)).set m (.vars T (cs.map (frC k ver t xs))) }) : AWP C c Q s := by
  intro σ a w hr
  have hkm : m ≠ k := by rintro rfl; rw [hk] at hm; cases hm
  have hlt : k < s.L.length := (List.getElem?_eq_some_iff.1 hk).1
  have hltm : m < s.L.length := (List.getElem?_eq_some_iff.1 hm).1
  have hI := cT (C := C) (L' := s.L.set k (.dead ver)) (σ' := σ) (w' := w) k hr.inv (Nat.le_refl _) rfl rfl rfl (fun _ _ _ => rfl) (fun j hj => by rw [List.getElem?_set_ne (Ne.symm hj)]) (fun _ _ => rfl)
    (fun ob e => by rw [hk] at e; cases e; exact ⟨.dead ver, by simp [hlt], Nat.le_refl _, fun h => by cases h⟩)
    (fun b ⟨ob, e1, e2, _⟩ => by simp [hlt] at e1; subst e1; cases e2)
    (fun _ _ ob e => by simp [hlt] at e; subst e; trivial)
  have key : ∀ u, RC C s.L σ w (.row k ver) u → RC C (s.L.set k (.dead ver)) σ w (.list t xs) u := by
    intro u h1
    obtain ⟨h3, ob, h4, h5, h6⟩ := h1
    rw [hk] at h4; cases h4
    obtain ⟨_, h7⟩ := h6 rfl rfl
    refine ⟨h3, ?_⟩
    obtain ⟨flat, h8, h9, h10⟩ := hr.inv.ob k _ hk
    show Dat _ w (.list t) xs [_]
    rw [h7]
    have hown : ∀ b, avd C (s.L.set k (.dead ver)) σ b → avd C s.L σ b := by
      rintro b (hx | ⟨j, ob, e1, e2, e3⟩)
      · exact .inl hx
      · by_cases ej : j = k
        · subst ej; simp [hlt] at e1; subst e1; cases e2
        · rw [List.getElem?_set_ne (Ne.symm ej)] at e1
          exact .inr ⟨j, ob, e1, e2, e3⟩
    rcases h8.2 with ⟨e1, e2⟩ | ⟨g, cap, cur, e1, _, e3, e4, e5, e6, e7⟩
    · rw [e1]
      have : xs = [] := List.eq_nil_of_length_eq_zero e2
      subst this
      exact dC t
    · rw [e1]
      refine ⟨some ⟨g, 0, none⟩, cap, rfl, e4, ⟨e5, fun h => by cases h⟩, fun _ => ⟨g, 0, rfl, ?_, (Array.getElem?_eq_some_iff.1 e3).1, fun i hi => ⟨_, (h10 i hi).length, fun j hj => ?_, (h10 i hi).keep (Nat.le_refl _) (fun _ _ _ => rfl) (fun b _ hb => hown b hb)⟩⟩⟩
      · have hg : own s.L σ k g := ⟨_, hk, rfl, by rw [e1]; rfl⟩
        rintro (hx | ⟨j, ob, q1, q2, q3⟩)
        · exact (hr.inv.off k g hg).2 hx
        · by_cases ej : j = k
          · subst ej; simp [hlt] at q1; subst q1; cases q2
          · rw [List.getElem?_set_ne (Ne.symm ej)] at q1
            exact ej (hr.inv.inj j k g ⟨ob, q1, q2, q3⟩ hg)
      · have hm : (i + 1) * t.size ≤ xs.length * t.size := Nat.mul_le_mul_right _ hi
        rw [Nat.add_mul, Nat.one_mul] at hm
        rw [da e3, List.getElem?_take_of_lt hj, List.getElem?_drop, ← e7, List.getElem?_take_of_lt (by omega)]
        simp
  have hcell : ∀ c u, RC C s.L σ w c u → RC C (s.L.set k (.dead ver)) σ w (frC k ver t xs c) u := by
    intro c u hc
    cases c with
    | row k' v =>
      simp only [frC]
      split
      · rename_i hh; obtain ⟨rfl, rfl⟩ := hh; exact key u hc
      · exact hI.2 _ _ hc
    | _ => exact hI.2 _ _ hc
  have hm1 : (s.L.set k (.dead ver))[m]? = some (.vars T cs) := by rw [List.getElem?_set_ne (Ne.symm hkm)]; exact hm
  have hI2 := cT (C := C) (L' := (s.L.set k (.dead ver)).set m (.vars T (cs.map (frC k ver t xs)))) (σ' := σ) (w' := w) m hI.1 (Nat.le_refl _) rfl rfl rfl (fun _ _ _ => rfl) (fun j hj => by rw [List.getElem?_set_ne (Ne.symm hj)]) (fun _ _ => rfl)
    (fun ob e => by rw [hm1] at e; cases e; exact ⟨.vars T (cs.map (frC k ver t xs)), by simp [hltm], Nat.le_refl _, fun _ _ => ⟨rfl, rfl, rfl, trivial⟩⟩)
    (fun b ⟨ob, e1, e2, e3⟩ => .inl ⟨.vars T cs, hm1, rfl, e3⟩)
    (fun hp _ ob e => by
      simp [hltm] at e; subst e
      obtain ⟨b, vs, q1, q2, q3⟩ := hr.inv.ob m _ hm
      exact ⟨b, vs, q1, q2, q3.mapL fun c u hc => hp _ _ (hcell c u hc)⟩)
  refine h σ a w ⟨hI2.1, fun t' => ?_, hr.size, hr.defers, (hr.pres.trans hI.2).trans hI2.2⟩
  have hlook : ∀ env : Env, lkp (env.map fun x => (x.1, match x.2 with | .one (.row k' v) => if k' = k ∧ v = ver then AV.one (.list t xs) else .one (.row k' v) | v => v)) t' =
      match lkp env t' with | .one (.row k' v) => if k' = k ∧ v = ver then AV.one (.list t xs) else .one (.row k' v) | v => v := by
    intro env
    induction env with
    | nil => rfl
    | cons x env ih =>
      obtain ⟨n, v⟩ := x
      simp only [List.map_cons, lkp]
      by_cases e : t' = n
      · simp only [e, if_true]
      · simp only [e, if_false]; exact ih
  show RV C _ σ w (lkp _ t') _
  rw [hlook]
  have h1 := hr.env t'
  have h2 := hI2.2.rv (hI.2.rv h1)
  split
  · rename_i k' v hv
    split
    · rename_i hkv
      obtain ⟨rfl, rfl⟩ := hkv
      rw [hv] at h1
      exact hI2.2 _ _ (key _ h1)
    · rw [hv] at h2; exact h2
  · exact h2
section
variable {C C' : Ctx} {L L' : List AO} {σ σ' : Sig} {w : World}
/-- The objects are forgotten, but for variables. -/
theorem oU (hI : INV C L σ w) (hav : ∀ b, avd C' L' σ' b → C.X b ∨ ∃ o ob, L[o]? = some ob ∧ (∀ (t : Ty) e v xs, ob ≠ .row t e v xs) ∧ own L σ o b) {c : AC} {u : Value} (h : RC C L σ w c u) : RC C' L' σ' w (fzC L c) u := by
  have ha : ∀ b, b < w.heap.size → avd C' L' σ' b → avd C L σ b := by
    intro b _ hb
    rcases hav b hb with hx | ⟨o, _, _, _, ho⟩
    · exact .inl hx
    · exact .inr ⟨o, ho⟩
  obtain ⟨h1, h2⟩ := h
  cases c with
  | row k ver =>
    simp only [fzC]
    obtain ⟨ob, h3, h4, h5⟩ := h2
    rw [h3]
    cases ob with
    | dead _ => exact ⟨h1, trivial⟩
    | vars _ _ => exact ⟨h1, trivial⟩
    | mp _ _ _ => exact ⟨h1, trivial⟩
    | rowc _ _ _ _ => exact ⟨h1, trivial⟩
    | itr _ _ => exact ⟨h1, trivial⟩
    | row t e v xs =>
      simp only
      split
      · rename_i hv; subst hv
        obtain ⟨_, h6⟩ := h5 rfl rfl
        refine ⟨h1, ?_⟩
        show Dat _ w (.list t) xs [u]
        rw [h6]
        obtain ⟨flat, h8, h9, h10⟩ := hI.ob k _ h3
        rcases h8.2 with ⟨e1, e2⟩ | ⟨g, cap, cur, e1, _, e3, e4, e5, e6, e7⟩
        · rw [e1]
          have : xs = [] := List.eq_nil_of_length_eq_zero e2
          subst this
          exact dC t
        · rw [e1]
          have hg : own L σ k g := ⟨_, h3, rfl, by rw [e1]; rfl⟩
          refine ⟨some ⟨g, 0, none⟩, cap, rfl, e4, ⟨e5, fun h => by cases h⟩, fun _ => ⟨g, 0, rfl, ?_, (Array.getElem?_eq_some_iff.1 e3).1, fun i hi => ⟨_, (h10 i hi).length, fun j hj => ?_, (h10 i hi).keep (Nat.le_refl _) (fun _ _ _ => rfl) ha⟩⟩⟩
          · intro hb
            rcases hav g hb with hx | ⟨o, ob9, hv, hnr, ho⟩
            · exact (hI.off k g hg).2 hx
            · have := hI.inj _ _ g ho hg
              subst this
              rw [h3] at hv; cases hv
              exact hnr _ _ _ _ rfl
          · have hm : (i + 1) * t.size ≤ xs.length * t.size := Nat.mul_le_mul_right _ hi
            rw [Nat.add_mul, Nat.one_mul] at hm
            rw [da e3, List.getElem?_take_of_lt hj, List.getElem?_drop, ← e7, List.getElem?_take_of_lt (by omega)]
            simp
      · exact ⟨h1, trivial⟩
  | ptr _ _ _ _ => exact ⟨h1, trivial⟩
  | mpv _ => exact ⟨h1, trivial⟩
  | rwc _ _ => exact ⟨h1, trivial⟩
  | fn f caps =>
    simp only [fzC]
    split
    · rename_i hp
      exact d5 (c := .fn f caps) ha hp ⟨h1, h2⟩
    · exact ⟨h1, trivial⟩
  | emp => exact ⟨h1, h2⟩
  | junk => exact ⟨h1, trivial⟩
  | int _ _ => exact ⟨h1, h2⟩
  | bool _ => exact ⟨h1, h2⟩
  | str _ => exact ⟨h1, h2⟩
  | nils => exact ⟨h1, h2⟩
  | nilp => exact ⟨h1, h2⟩
  | list t xs => exact d5 (c := .list t xs) ha rfl ⟨h1, h2⟩
  | pat t d off => exact d5 (c := .pat t d off) ha rfl ⟨h1, h2⟩
  | pfn f ds => exact d5 (c := .pfn f ds) ha rfl ⟨h1, h2⟩
theorem mh (hI : INV C L σ w) (hav : ∀ b, avd C' L' σ' b → C.X b ∨ ∃ o ob, L[o]? = some ob ∧ (∀ (t : Ty) e v xs, ob ≠ .row t e v xs) ∧ own L σ o b) {v : AV} {u : Value} (h : RV1 C L σ w v u) : RV1 C' L' σ' w (fz1 L v) u := by
  cases v with
  | undef => trivial
  | void => exact h
  | tup _ => exact h.elim
  | one c => exact oU hI hav h
  | agg cs => obtain ⟨vs, e, hall⟩ := h; exact ⟨vs, e, hall.mapL fun c u hc => oU hI hav hc⟩
end
open Go Go.RowKit in
theorem bE.append_inv {α β : Type} {p : α → β → Prop} : ∀ {as as' : List α} {bs : List β}, bE p (as ++ as') bs → ∃ b1 b2, bs = b1 ++ b2 ∧ bE p as b1 ∧ bE p as' b2
  | [], _, bs, h => ⟨[], bs, rfl, trivial, h⟩
  | a :: as, as', b :: bs, ⟨h1, h2⟩ => by
    obtain ⟨b1, b2, e, q1, q2⟩ := h2.append_inv
    exact ⟨b :: b1, b2, by rw [e]; rfl, ⟨h1, q1⟩, q2⟩
  | _ :: _, _, [], h => h.elim
/-- A function that hands back a map of its own among data. -/
theorem pT {P : Program} {f : FuncId} {fn : Func} {c : Code} {args pre post : List AV} {T : TypeId} {vk : VK} {es : List (KV × Int)} (hf : P.funcs[f]? = some fn) (hb : fn.body = some c) (hname : (fn.name == "runtime.NumGoroutine") = false) (hn : args.length ≤ fn.ntmps) (hp : args.all eG = true)
    (h : ∀ C, C.P = P → C.N = fn.ntmps → C.bL = [] → AWP C c (oC P fn fun s' v => ∃ k pre' post', v = .tup (pre' ++ .one (.mpv k) :: post') ∧ s'.L[k]? = some (.mp T vk es) ∧ pre'.map (fz1 s'.L) = pre ∧ post'.map (fz1 s'.L) = post) { env := Z 0 args, L := [] }) (L0 : List AO) :
    fS P L0 f args { av := .tup (pre ++ .one (.mpv L0.length) :: post), new := [.mp T vk es] } := by
  refine ⟨⟨fn, hf, hname, by rw [hb]; rfl⟩, fun C L σ w vs hP hI ha _ hlen => ?_⟩
  refine (eW hf hb hn hp h hI ha).mono fun en w' hh => ?_
  obtain ⟨s', σ', v, u, rfl, ⟨k, pre', post', rfl, hk, e1, e2⟩, h1, h2⟩ := hh
  obtain ⟨us, rfl, hall⟩ := h2
  obtain ⟨u1, u2, rfl, q1, q2⟩ := hall.append_inv
  cases u2 with
  | nil => exact q2.elim
  | cons um u2 =>
  obtain ⟨qm, q2⟩ := q2
  obtain ⟨qo, ob, q3, q4⟩ := qm
  rw [hk] at q3; cases q3
  obtain ⟨_, q5⟩ := q4 rfl rfl
  obtain ⟨b, ents, clock, m1, m2, m3, m4, mk, m5, m6, m7⟩ := h1.ob k _ hk
  have hm := eJ h1
  have hown : own s'.L σ' k b := ⟨_, hk, rfl, by rw [m1]; rfl⟩
  have hnew : w.heap.size ≤ b := Nat.le_of_not_lt (h1.off k b hown).1
  refine ⟨_, rfl, ?_⟩
  rw [← hlen]
  refine cM (g := .map (some b)) hI hm.size hm.os hm.tape hm.output hm.block (fun b' hb' => by simp only [blk, Option.some.injEq] at hb'; omega) (fun _ => ?_) ?_
  · refine ⟨b, ents, clock, bp _ _ _, m2, m3, m4, mk, ?_, m6, m7⟩
    rw [hP]; exact m5
  · have hav : ∀ b', avd C (L ++ [.mp T vk es]) (sup σ L.length (.map (some b))) b' → (Ctx.start P (avd C L σ) w fn.ntmps).X b' ∨ ∃ o ob, s'.L[o]? = some ob ∧ (∀ (t : Ty) e v xs, ob ≠ .row t e v xs) ∧ own s'.L σ' o b' := by
      rintro b' (hx | ⟨o, ob, g1, g2, g3⟩)
      · exact .inl (.inl hx)
      · by_cases eo : o = L.length
        · subst eo
          rw [bp] at g3
          simp only [blk, Option.some.injEq] at g3
          subst g3
          exact .inr ⟨k, _, hk, (fun _ _ _ _ h => by cases h), hown⟩
        · have ho : o < L.length := by
            have := (List.getElem?_eq_some_iff.1 g1).1
            simp at this; omega
          rw [List.getElem?_append_left ho] at g1
          rw [cR _ _ eo] at g3
          exact .inl (.inr ⟨o, ob, g1, g2, g3⟩)
    refine ⟨_, rfl, ?_⟩
    rw [← e1, ← e2]
    refine (q1.mapL fun a u9 hu9 => mh h1 hav hu9).append ⟨⟨qo, .mp T vk es, by simp, fun _ _ => ⟨⟨_, _, _, rfl⟩, ?_⟩⟩, q2.mapL fun a u9 hu9 => mh h1 hav hu9⟩
    rw [bp, q5, m1]
section
variable {C C' : Ctx} {L L' : List AO} {σ σ' : Sig} {w : World}
end
end Go.AV
