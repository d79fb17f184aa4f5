/- Helpers for walks: rows filled one by one, arrays of numbers, tables of numbered keys. -/
import Derived.Test.YtoahhklogohehaaLw
set_option linter.unusedSimpArgs false
set_option linter.unusedVariables false
namespace Go.AV

def ke {α : Type} (f : Nat → α) (d : α) (n k : Nat) : List α := (List.range k).map f ++ List.replicate (n - k) d
theorem yo {α : Type} (f : Nat → α) (d : α) {n k : Nat} (h : k ≤ n) : (ke f d n k).length = n := by simp [ke]; omega
theorem w9 {α : Type} (f : Nat → α) (d : α) (n : Nat) : ke f d n 0 = List.replicate n d := by simp [ke]
theorem xu {α : Type} (f : Nat → α) (d : α) (n : Nat) : ke f d n n = (List.range n).map f := by simp [ke]
theorem kU {α : Type} (f : Nat → α) (d : α) {n k : Nat} (h : k < n) : (ke f d n k).set k (f k) = ke f d n (k + 1) := by
  unfold ke
  rw [List.set_append]
  simp only [List.length_map, List.length_range, Nat.lt_irrefl, if_false, Nat.sub_self]
  rw [show n - k = (n - (k + 1)) + 1 by omega, List.replicate_succ, List.set_cons_zero, List.range_succ, List.map_append]
  simp
def f8 (l : List Int) : List AC := l.map (AC.int .i64)
theorem bC (l : List Int) : (f8 l).length = l.length := by simp [f8]
theorem vp (n : Nat) (z : Int) : List.replicate n (AC.int .i64 z) = f8 (List.replicate n z) := by simp [f8]
theorem l8 {l : List Int} {off : Nat} (h : off < l.length) (v : Int) : c7 (f8 l) off [.int .i64 v] = f8 (l.set off v) := by
  unfold c7 f8
  apply List.ext_getElem?
  intro i
  simp only [List.getElem?_map, List.getElem?_set, List.getElem?_append, List.length_append, List.length_take, List.length_map, List.length_cons, List.length_nil, List.getElem?_take, List.getElem?_drop]
  rw [Nat.min_eq_left (by omega)]
  by_cases h1 : i < off
  · simp [h1, show i < off + 1 by omega, show ¬ off = i by omega]
  · by_cases h2 : i = off
    · subst h2; simp [h]
    · simp [h1, show ¬ i < off + 1 by omega, show ¬ off = i by omega]
      congr 2
      omega
theorem br (l : List Int) (n : Nat) : (f8 l).take n = f8 (l.take n) := by simp [f8, List.map_take]
theorem bD (l : List Int) : bK.intsAC (f8 l) = some l := vr l

def gz {α : Type} [DecidableEq α] (l : List α) (x : α) : List α := if x ∈ l then l else l ++ [x]
theorem gl {α : Type} [DecidableEq α] {l : List α} {x : α} (h : x ∈ l) : gz l x = l := by unfold gz; rw [if_pos h]
theorem fu {α : Type} [DecidableEq α] {l : List α} {x : α} (h : x ∉ l) : gz l x = l ++ [x] := by unfold gz; rw [if_neg h]
theorem rS {α : Type} [DecidableEq α] {l : List α} {t x : α} : x ∈ gz l t ↔ x ∈ l ∨ x = t := by
  unfold gz
  split
  · rename_i h
    constructor
    · exact .inl
    · rintro (h1 | rfl)
      · exact h1
      · exact h
  · simp
theorem wg {α : Type} [DecidableEq α] {r : List α} : ∀ {l : List α} {x : α}, x ∈ r.foldl gz l ↔ x ∈ l ∨ x ∈ r := by
  induction r with
  | nil => intro l x; simp
  | cons t r ih => intro l x; simp only [List.foldl_cons, ih, rS, List.mem_cons]; exact or_assoc
theorem ut {α : Type} [DecidableEq α] {l : List α} (h : l.Nodup) (x : α) : (gz l x).Nodup := by
  unfold gz
  split
  · exact h
  · rename_i hx
    rw [List.nodup_append]
    refine ⟨h, by simp, fun a ha b hb => ?_⟩
    simp at hb; subst hb
    intro e; subst e; exact hx ha
theorem wk {α : Type} [DecidableEq α] (r : List α) : ∀ l : List α, ∃ k, r.foldl gz l = l ++ k := by
  induction r with
  | nil => intro l; exact ⟨[], by simp⟩
  | cons t r ih =>
    intro l
    obtain ⟨k2, h2⟩ := ih (gz l t)
    by_cases h : t ∈ l
    · rw [gl h] at h2
      exact ⟨k2, by simp only [List.foldl_cons, gl h]; exact h2⟩
    · rw [fu h] at h2
      exact ⟨t :: k2, by simp only [List.foldl_cons, fu h]; rw [h2]; simp⟩
def di {α : Type} [DecidableEq α] (f : Nat → α) (k : Nat) : List α := ((List.range k).map f).foldl gz []
theorem dH {α : Type} [DecidableEq α] (f : Nat → α) (k : Nat) : di f (k + 1) = gz (di f k) (f k) := by
  unfold di
  rw [List.range_succ, List.map_append, List.foldl_append]; rfl
theorem gc {α : Type} [DecidableEq α] {f : Nat → α} {k : Nat} {x : α} : x ∈ di f k ↔ ∃ i, i < k ∧ f i = x := by
  unfold di
  rw [wg]
  simp [List.mem_map, List.mem_range]
theorem lS {α : Type} [DecidableEq α] (f : Nat → α) : ∀ k, (di f k).length ≤ k
  | 0 => by simp [di]
  | k + 1 => by
    rw [dH]
    have := lS f k
    unfold gz
    split <;> simp <;> omega
def pos {α : Type} [DecidableEq α] : List α → α → Nat
  | [], _ => 0
  | y :: l, x => if y = x then 0 else pos l x + 1
theorem i7 {α : Type} [DecidableEq α] {x : α} : ∀ {l : List α}, x ∈ l → pos l x < l.length
  | [], h => by cases h
  | y :: l, h => by
    simp only [pos]
    split
    · simp
    · rename_i e
      rcases List.mem_cons.1 h with h | h
      · exact absurd h.symm e
      · have := i7 h
        simp; omega
theorem ud {α : Type} [DecidableEq α] {x : α} : ∀ {l : List α}, x ∉ l → pos l x = l.length
  | [], _ => rfl
  | y :: l, h => by
    simp only [List.mem_cons, not_or] at h
    simp only [pos]
    rw [if_neg (Ne.symm h.1), ud h.2]; rfl
theorem iY {α : Type} [DecidableEq α] {x : α} : ∀ {l : List α}, x ∈ l → l[pos l x]? = some x
  | [], h => by cases h
  | y :: l, h => by
    simp only [pos]
    split
    · rename_i e; simp [e]
    · rename_i e
      rcases List.mem_cons.1 h with h | h
      · exact absurd h.symm e
      · simpa using iY h
theorem z1 {α : Type} [DecidableEq α] {l : List α} {x y : α} (hx : x ∈ l) (hy : y ∈ l) (h : pos l x = pos l y) : x = y := by
  have h1 := iY hx
  have h2 := iY hy
  rw [h, h2] at h1
  exact (Option.some.inj h1).symm
theorem iF {α : Type} [DecidableEq α] {x : α} : ∀ {l : List α} (r : List α), x ∈ l → pos (l ++ r) x = pos l x
  | [], _, h => by cases h
  | y :: l, r, h => by
    simp only [List.cons_append, pos]
    split
    · rfl
    · rename_i e
      rcases List.mem_cons.1 h with h | h
      · exact absurd h.symm e
      · rw [iF r h]
theorem sk {α : Type} [DecidableEq α] {x : α} {l : List α} (h : x ∉ l) : pos (l ++ [x]) x = l.length := by
  induction l with
  | nil => simp [pos]
  | cons y l ih =>
    simp only [List.mem_cons, not_or] at h
    simp only [List.cons_append, pos]
    rw [if_neg (Ne.symm h.1), ih h.2]; rfl
theorem vg {α : Type} (f : Nat → α) (d : α) {n i : Nat} (h : i < n) : ((List.range n).map f).getD i d = f i := by simp [List.getD, h]
theorem mX {α : Type} [DecidableEq α] (f : Nat → α) {i k : Nat} (h : i < k) : ∀ n, k ≤ n → pos (di f n) (f i) = pos (di f k) (f i)
  | 0, hn => by omega
  | n + 1, hn => by
    by_cases e : k = n + 1
    · subst e; rfl
    · rw [← mX f h n (by omega), dH]
      have hm : f i ∈ di f n := gc.2 ⟨i, by omega, rfl⟩
      unfold gz
      split
      · rfl
      · exact iF _ hm

def fL (i : Int) : List (List Int) → List (KV × Int)
  | [] => []
  | x :: r => (.arr x, i) :: fL (i + 1) r
def nS (l : List (List Int)) : List (KV × Int) := fL 0 l
theorem uD (l : List (List Int)) : ∀ i, (fL i l).length = l.length := by
  induction l with
  | nil => intro i; rfl
  | cons x l ih => intro i; simp [fL, ih]
theorem sK (l : List (List Int)) : (nS l).length = l.length := uD l 0
theorem v7 (l r : List (List Int)) : ∀ i, fL i (l ++ r) = fL i l ++ fL (i + l.length) r := by
  induction l with
  | nil => intro i; simp [fL]
  | cons x l ih => intro i; simp only [List.cons_append, fL, ih, List.length_cons]; rw [show i + 1 + (l.length : Int) = i + ((l.length + 1 : Nat) : Int) by omega]
theorem sZ (l : List (List Int)) (x : List Int) : ∀ i, dT (fL i l) (.arr x) = if x ∈ l then some (i + (pos l x : Int)) else none := by
  induction l with
  | nil => intro i; rfl
  | cons y l ih =>
    intro i
    simp only [fL, dT]
    by_cases e : y = x
    · subst e; simp [pos]
    · rw [if_neg (by intro h; cases h; exact e rfl), ih]
      by_cases hm : x ∈ l
      · rw [if_pos hm, if_pos (by simp [hm])]
        simp only [pos]
        rw [if_neg e]
        congr 1
        omega
      · rw [if_neg hm, if_neg (by simp [hm, Ne.symm e])]
theorem fV (l : List (List Int)) (x : List Int) : dT (nS l) (.arr x) = if x ∈ l then some (pos l x : Int) else none := by
  unfold nS; rw [sZ]; simp
theorem qV {l : List (List Int)} {x : List Int} (h : x ∉ l) : gS (nS l) (.arr x) (l.length : Int) = nS (l ++ [x]) := by
  unfold gS
  rw [fV, if_neg h]
  simp [nS, v7, fL]
theorem eE {α : Type} [DecidableEq α] : ∀ (l R : List α), l.Nodup → (∀ x, x ∈ l → x ∈ R) → l.length ≤ R.length
  | [], _, _, _ => by simp
  | x :: l, R, h, hs => by
    have hx : x ∈ R := hs x (by simp)
    rw [List.nodup_cons] at h
    have h1 := eE l (R.erase x) h.2 fun y hy => by
      have hne : y ≠ x := fun e => h.1 (e ▸ hy)
      exact (List.mem_erase_of_ne hne).2 (hs y (by simp [hy]))
    have h2 : (R.erase x).length + 1 = R.length := by
      rw [List.length_erase, if_pos (by simpa using hx)]
      have : 0 < R.length := List.length_pos_of_mem hx
      omega
    simp only [List.length_cons]; omega

open Go Go.RowKit in
theorem kG {C : Ctx} {Q : Exit → St → Prop} {s : St} {c : Code} (k : Nat) {ob : AO} (hk : s.L[k]? = some ob) (h : AWP C c Q { env := s.env, L := s.L.set k (.dead ob.ver) }) : AWP C c Q s := by
  intro σ a w hr
  have hlt : k < s.L.length := (List.getElem?_eq_some_iff.1 hk).1
  have hI := dx (C := C) (L' := s.L.set k (.dead ob.ver)) (σ' := σ) (w' := w) k hr.inv (Nat.le_refl _) rfl rfl rfl (fun _ _ _ => rfl) (fun j hj => by rw [List.getElem?_set_ne (Ne.symm hj)]) (fun _ _ => rfl)
    (fun ob' e => by rw [hk] at e; cases e; exact ⟨.dead ob.ver, by simp [hlt], Nat.le_refl _, fun h => by cases h⟩)
    (fun b ⟨ob', e1, e2, _⟩ => by simp [hlt] at e1; subst e1; cases e2)
    (fun _ _ ob' e => by simp [hlt] at e; subst e; trivial)
  exact h σ a w ⟨hI.1, fun t => hI.2.rv (hr.env t), hr.size, hr.defers, hr.pres.trans hI.2⟩

open Go Go.RowKit in
theorem ma {C : Ctx} {Q : Exit → St → Prop} {s : St} {c : Code} {L1 : List AO} {ob : AO} (hL : s.L = L1 ++ [ob]) (hB : C.bL = []) (he : s.env.all (fun x => gJ L1.length x.2) = true) (ho : L1.all (cP L1.length) = true)
    (h : AWP C c Q { env := s.env, L := L1 }) : AWP C c Q s := by
  refine kG L1.length (ob := ob) (by rw [hL]; simp) ?_
  refine cF (L1 := L1) (ver := ob.ver) (n := L1.length) ?_ rfl (by rw [hB]; exact Nat.zero_le _) he ho h
  show s.L.set L1.length _ = _
  rw [hL, List.set_append]
  simp

section
variable {e : Go.TypeId} {f : Nat → List Bool} {n i : Nat} {X : List AO} {x : AO}
end

open Go Go.RowKit in
theorem kI {C : Ctx} {Q : Exit → St → Prop} {s : St} {c : Code} (h : AWP C c Q { env := s.env, L := s.L ++ [.dead 0] }) : AWP C c Q s := by
  intro σ a w hr
  have hd := dO (C := C) (L := s.L) (σ := σ) (w := w) (w' := w) (v := .undef) (fp := []) (u := undef) (g := undef) (ob := .dead 0) hr.inv (Nat.le_refl _) rfl rfl rfl (fun _ _ => rfl) (fun b hb => by cases hb) (fun _ => trivial) trivial
  obtain ⟨σ', d1, _, d3⟩ := hd
  have happ : app s.L { av := .undef, new := [.dead 0], fp := [] } = s.L ++ [.dead 0] := rfl
  rw [happ] at d1 d3
  exact h σ' a w ⟨d1, fun t => d3.rv (hr.env t), hr.size, hr.defers, hr.pres.trans d3⟩

def nF (f : Nat → Nat) (t : List Nat × List Nat × Nat) : List Nat × List Nat × Nat := (t.1.map f, t.2.1.map f, t.2.2)
section
variable {f : Nat → Nat} (hf : ∀ x y, f x = f y → x = y)
include hf
theorem nj {a b : List Nat} (h : kg a b = true) : kg (a.map f) (b.map f) = true := by
  refine List.all_eq_true.2 fun x hx => ?_
  obtain ⟨u, hu, rfl⟩ := List.mem_map.1 hx
  have := fQ h hu
  simp only [Bool.not_eq_true', List.contains_eq_mem, decide_eq_false_iff_not]
  intro hm
  obtain ⟨v, hv, e⟩ := List.mem_map.1 hm
  exact this (hf v u e ▸ hv)
theorem vS {ops : List Go.Oper} {oi oj : Go.Oper} {ti tj : List Nat × List Nat × Nat} (h : fk ops oi oj ti tj = true) : fk ops oi oj (nF f ti) (nF f tj) = true := by
  simp only [fk, Bool.and_eq_true, nF] at *
  obtain ⟨⟨⟨⟨⟨h1, h2⟩, h3⟩, h4⟩, h5⟩, h6⟩ := h
  exact ⟨⟨⟨⟨⟨h1, h2⟩, h3⟩, nj hf h4⟩, nj hf h5⟩, nj hf h6⟩
theorem nG {ops : List Go.Oper} {mask : Nat} {oj : Go.Oper} {tj : List Nat × List Nat × Nat} : ∀ {i : Nat} {os : List Go.Oper} {ts : Tr}, fb ops mask oj tj i os ts = true → fb ops mask oj (nF f tj) i os (ts.map (nF f)) = true
  | _, [], _, _ => rfl
  | i, oi :: os, t :: ts, h => by
    simp only [fb, List.map_cons, Bool.and_eq_true, Bool.or_eq_true] at *
    refine ⟨?_, nG h.2⟩
    rcases h.1 with h1 | h1
    · exact .inl h1
    · exact .inr (vS hf h1)
  | _, _ :: _, [], h => by cases h
theorem o3 {ops : List Go.Oper} {tr : Tr} {masks : List Nat} : ∀ {j : Nat} {os : List Go.Oper} {ts : Tr}, fM ops tr masks j os ts = true → fM ops (tr.map (nF f)) masks j os (ts.map (nF f)) = true
  | _, [], [], _ => rfl
  | j, o :: os, t :: ts, h => by
    simp only [fM, List.map_cons, Bool.and_eq_true] at *
    refine ⟨⟨h.1.1, ?_⟩, o3 h.2⟩
    rw [← List.map_take]
    exact nG hf h.1.2
  | _, [], _ :: _, h => by cases h
  | _, _ :: _, [], h => by cases h
theorem qo {ops : List Go.Oper} (tr : Tr) (h : kx ops tr = true) : kx ops (tr.map (nF f)) = true := o3 hf h
end
def cdf (n k : Nat) : Nat := if k < 4 then k else n + k
theorem uz (n : Nat) : ∀ x y, cdf n x = cdf n y → x = y := by
  intro x y h
  unfold cdf at h
  split at h <;> split at h <;> omega

theorem iI {C : Ctx} {Q : Exit → St → Prop} {s : St} {c : Code} (k : Nat) {v v' : AV} (hk : lkp s.env k = v) (hv : VLE v v')
    (h : AWP C c Q { env := (k, v') :: s.env, L := s.L }) : AWP C c Q s := by
  intro σ a w hr
  refine h σ a w ⟨hr.inv, fun t => ?_, hr.size, hr.defers, hr.pres⟩
  simp only [lkp]
  by_cases e : t = k
  · rw [if_pos e, e]
    have := hr.env k
    rw [hk] at this
    exact hv _ _ _ _ _ this
  · rw [if_neg e]; exact hr.env t
def frC (k ver : Nat) (t : Ty) (xs : List t.den) : AC → AC
  | .row k' v => if k' = k ∧ v = ver then .list t xs else .row k' v
  | c => c
open Go Go.RowKit in
theorem jS {C : Ctx} {Q : Exit → St → Prop} {s : St} {c : Code} (k m : Nat) {t : Ty} {e T : TypeId} {ver : Nat} {xs : List t.den} {cs : List AC} (hk : s.L[k]? = some (.row t e ver xs)) (hm : s.L[m]? = some (.vars T cs))
    (h : AWP C c Q { env := s.env.map fun x => (x.1, match x.2 with | .one (.row k' v) => if k' = k ∧ v = ver then .one (.list t xs) else .one (.row k' v) | v => v), L := (s.L.set k (.dead ver)).set m (.vars T (cs.map (frC k ver t xs))) }) : AWP C c Q s := by
  intro σ a w hr
  have hkm : m ≠ k := by rintro rfl; rw [hk] at hm; cases hm
  have hlt : k < s.L.length := (List.getElem?_eq_some_iff.1 hk).1
  have hltm : m < s.L.length := (List.getElem?_eq_some_iff.1 hm).1
  have hI := dx (C := C) (L' := s.L.set k (.dead ver)) (σ' := σ) (w' := w) k hr.inv (Nat.le_refl _) rfl rfl rfl (fun _ _ _ => rfl) (fun j hj => by rw [List.getElem?_set_ne (Ne.symm hj)]) (fun _ _ => rfl)
    (fun ob e => by rw [hk] at e; cases e; exact ⟨.dead ver, by simp [hlt], Nat.le_refl _, fun h => by cases h⟩)
    (fun b ⟨ob, e1, e2, _⟩ => by simp [hlt] at e1; subst e1; cases e2)
    (fun _ _ ob e => by simp [hlt] at e; subst e; trivial)
  have key : ∀ u, RC C s.L σ w (.row k ver) u → RC C (s.L.set k (.dead ver)) σ w (.list t xs) u := by
    intro u h1
    obtain ⟨h3, ob, h4, h5, h6⟩ := h1
    rw [hk] at h4; cases h4
    obtain ⟨_, h7⟩ := h6 rfl rfl
    refine ⟨h3, ?_⟩
    obtain ⟨flat, h8, h9, h10⟩ := hr.inv.ob k _ hk
    show Dat _ w (.list t) xs [_]
    rw [h7]
    have hown : ∀ b, avd C (s.L.set k (.dead ver)) σ b → avd C s.L σ b := by
      rintro b (hx | ⟨j, ob, e1, e2, e3⟩)
      · exact .inl hx
      · by_cases ej : j = k
        · subst ej; simp [hlt] at e1; subst e1; cases e2
        · rw [List.getElem?_set_ne (Ne.symm ej)] at e1
          exact .inr ⟨j, ob, e1, e2, e3⟩
    rcases h8.2 with ⟨e1, e2⟩ | ⟨g, cap, cur, e1, _, e3, e4, e5, e6, e7⟩
    · rw [e1]
      have : xs = [] := List.eq_nil_of_length_eq_zero e2
      subst this
      exact fG t
    · rw [e1]
      refine ⟨some ⟨g, 0, none⟩, cap, rfl, e4, ⟨e5, fun h => by cases h⟩, fun _ => ⟨g, 0, rfl, ?_, (Array.getElem?_eq_some_iff.1 e3).1, fun i hi => ⟨_, (h10 i hi).length, fun j hj => ?_, (h10 i hi).keep (Nat.le_refl _) (fun _ _ _ => rfl) (fun b _ hb => hown b hb)⟩⟩⟩
      · have hg : own s.L σ k g := ⟨_, hk, rfl, by rw [e1]; rfl⟩
        rintro (hx | ⟨j, ob, q1, q2, q3⟩)
        · exact (hr.inv.off k g hg).2 hx
        · by_cases ej : j = k
          · subst ej; simp [hlt] at q1; subst q1; cases q2
          · rw [List.getElem?_set_ne (Ne.symm ej)] at q1
            exact ej (hr.inv.inj j k g ⟨ob, q1, q2, q3⟩ hg)
      · have hm : (i + 1) * t.size ≤ xs.length * t.size := Nat.mul_le_mul_right _ hi
        rw [Nat.add_mul, Nat.one_mul] at hm
        rw [eR e3, List.getElem?_take_of_lt hj, List.getElem?_drop, ← e7, List.getElem?_take_of_lt (by omega)]
        simp
  have hcell : ∀ c u, RC C s.L σ w c u → RC C (s.L.set k (.dead ver)) σ w (frC k ver t xs c) u := by
    intro c u hc
    cases c with
    | row k' v =>
      simp only [frC]
      split
      · rename_i hh; obtain ⟨rfl, rfl⟩ := hh; exact key u hc
      · exact hI.2 _ _ hc
    | _ => exact hI.2 _ _ hc
  have hm1 : (s.L.set k (.dead ver))[m]? = some (.vars T cs) := by rw [List.getElem?_set_ne (Ne.symm hkm)]; exact hm
  have hI2 := dx (C := C) (L' := (s.L.set k (.dead ver)).set m (.vars T (cs.map (frC k ver t xs)))) (σ' := σ) (w' := w) m hI.1 (Nat.le_refl _) rfl rfl rfl (fun _ _ _ => rfl) (fun j hj => by rw [List.getElem?_set_ne (Ne.symm hj)]) (fun _ _ => rfl)
    (fun ob e => by rw [hm1] at e; cases e; exact ⟨.vars T (cs.map (frC k ver t xs)), by simp [hltm], Nat.le_refl _, fun _ _ => ⟨rfl, rfl, rfl, trivial⟩⟩)
    (fun b ⟨ob, e1, e2, e3⟩ => .inl ⟨.vars T cs, hm1, rfl, e3⟩)
    (fun hp _ ob e => by
      simp [hltm] at e; subst e
      obtain ⟨b, vs, q1, q2, q3⟩ := hr.inv.ob m _ hm
      exact ⟨b, vs, q1, q2, q3.mapL fun c u hc => hp _ _ (hcell c u hc)⟩)
  refine h σ a w ⟨hI2.1, fun t' => ?_, hr.size, hr.defers, (hr.pres.trans hI.2).trans hI2.2⟩
  have hlook : ∀ env : Env, lkp (env.map fun x => (x.1, match x.2 with | .one (.row k' v) => if k' = k ∧ v = ver then AV.one (.list t xs) else .one (.row k' v) | v => v)) t' =
      match lkp env t' with | .one (.row k' v) => if k' = k ∧ v = ver then AV.one (.list t xs) else .one (.row k' v) | v => v := by
    intro env
    induction env with
    | nil => rfl
    | cons x env ih =>
      obtain ⟨n, v⟩ := x
      simp only [List.map_cons, lkp]
      by_cases e : t' = n
      · simp only [e, if_true]
      · simp only [e, if_false]; exact ih
  show RV C _ σ w (lkp _ t') _
  rw [hlook]
  have h1 := hr.env t'
  have h2 := hI2.2.rv (hI.2.rv h1)
  split
  · rename_i k' v hv
    split
    · rename_i hkv
      obtain ⟨rfl, rfl⟩ := hkv
      rw [hv] at h1
      exact hI2.2 _ _ (key _ h1)
    · rw [hv] at h2; exact h2
  · exact h2
open Go Go.RowKit in
theorem cv {C : Ctx} {Q : Exit → St → Prop} {s : St} {c : Code} (k m : Nat) {t : Ty} {e T : TypeId} {ver sz v9 : Nat} {xs : List t.den} {cs : List AC} (hk : s.L[k]? = some (.row t e ver xs)) (hm : s.L[m]? = some (.rowc T sz v9 cs))
    (h : AWP C c Q { env := s.env.map fun x => (x.1, match x.2 with | .one (.row k' v) => if k' = k ∧ v = ver then .one (.list t xs) else .one (.row k' v) | v => v), L := (s.L.set k (.dead ver)).set m (.rowc T sz v9 (cs.map (frC k ver t xs))) }) : AWP C c Q s := by
  intro σ a w hr
  have hkm : m ≠ k := by rintro rfl; rw [hk] at hm; cases hm
  have hlt : k < s.L.length := (List.getElem?_eq_some_iff.1 hk).1
  have hltm : m < s.L.length := (List.getElem?_eq_some_iff.1 hm).1
  have hI := dx (C := C) (L' := s.L.set k (.dead ver)) (σ' := σ) (w' := w) k hr.inv (Nat.le_refl _) rfl rfl rfl (fun _ _ _ => rfl) (fun j hj => by rw [List.getElem?_set_ne (Ne.symm hj)]) (fun _ _ => rfl)
    (fun ob e => by rw [hk] at e; cases e; exact ⟨.dead ver, by simp [hlt], Nat.le_refl _, fun h => by cases h⟩)
    (fun b ⟨ob, e1, e2, _⟩ => by simp [hlt] at e1; subst e1; cases e2)
    (fun _ _ ob e => by simp [hlt] at e; subst e; trivial)
  have key : ∀ u, RC C s.L σ w (.row k ver) u → RC C (s.L.set k (.dead ver)) σ w (.list t xs) u := by
    intro u h1
    obtain ⟨h3, ob, h4, h5, h6⟩ := h1
    rw [hk] at h4; cases h4
    obtain ⟨_, h7⟩ := h6 rfl rfl
    refine ⟨h3, ?_⟩
    obtain ⟨flat, h8, h9, h10⟩ := hr.inv.ob k _ hk
    show Dat _ w (.list t) xs [_]
    rw [h7]
    have hown : ∀ b, avd C (s.L.set k (.dead ver)) σ b → avd C s.L σ b := by
      rintro b (hx | ⟨j, ob, e1, e2, e3⟩)
      · exact .inl hx
      · by_cases ej : j = k
        · subst ej; simp [hlt] at e1; subst e1; cases e2
        · rw [List.getElem?_set_ne (Ne.symm ej)] at e1
          exact .inr ⟨j, ob, e1, e2, e3⟩
    rcases h8.2 with ⟨e1, e2⟩ | ⟨g, cap, cur, e1, _, e3, e4, e5, e6, e7⟩
    · rw [e1]
      have : xs = [] := List.eq_nil_of_length_eq_zero e2
      subst this
      exact fG t
    · rw [e1]
      refine ⟨some ⟨g, 0, none⟩, cap, rfl, e4, ⟨e5, fun h => by cases h⟩, fun _ => ⟨g, 0, rfl, ?_, (Array.getElem?_eq_some_iff.1 e3).1, fun i hi => ⟨_, (h10 i hi).length, fun j hj => ?_, (h10 i hi).keep (Nat.le_refl _) (fun _ _ _ => rfl) (fun b _ hb => hown b hb)⟩⟩⟩
      · have hg : own s.L σ k g := ⟨_, hk, rfl, by rw [e1]; rfl⟩
        rintro (hx | ⟨j, ob, q1, q2, q3⟩)
        · exact (hr.inv.off k g hg).2 hx
        · by_cases ej : j = k
          · subst ej; simp [hlt] at q1; subst q1; cases q2
          · rw [List.getElem?_set_ne (Ne.symm ej)] at q1
            exact ej (hr.inv.inj j k g ⟨ob, q1, q2, q3⟩ hg)
      · have hm : (i + 1) * t.size ≤ xs.length * t.size := Nat.mul_le_mul_right _ hi
        rw [Nat.add_mul, Nat.one_mul] at hm
        rw [eR e3, List.getElem?_take_of_lt hj, List.getElem?_drop, ← e7, List.getElem?_take_of_lt (by omega)]
        simp
  have hcell : ∀ c u, RC C s.L σ w c u → RC C (s.L.set k (.dead ver)) σ w (frC k ver t xs c) u := by
    intro c u hc
    cases c with
    | row k' v =>
      simp only [frC]
      split
      · rename_i hh; obtain ⟨rfl, rfl⟩ := hh; exact key u hc
      · exact hI.2 _ _ hc
    | _ => exact hI.2 _ _ hc
  have hm1 : (s.L.set k (.dead ver))[m]? = some (.rowc T sz v9 cs) := by rw [List.getElem?_set_ne (Ne.symm hkm)]; exact hm
  have hI2 := dx (C := C) (L' := (s.L.set k (.dead ver)).set m (.rowc T sz v9 (cs.map (frC k ver t xs)))) (σ' := σ) (w' := w) m hI.1 (Nat.le_refl _) rfl rfl rfl (fun _ _ _ => rfl) (fun j hj => by rw [List.getElem?_set_ne (Ne.symm hj)]) (fun _ _ => rfl)
    (fun ob e => by rw [hm1] at e; cases e; exact ⟨.rowc T sz v9 (cs.map (frC k ver t xs)), by simp [hltm], Nat.le_refl _, fun _ _ => ⟨rfl, rfl, rfl, _, rfl⟩⟩)
    (fun b ⟨ob, e1, e2, e3⟩ => .inl ⟨.rowc T sz v9 cs, hm1, rfl, e3⟩)
    (fun hp _ ob e => by
      simp [hltm] at e; subst e
      obtain ⟨vs, n, q1, q2, q5, q3⟩ := hr.inv.ob m _ hm
      exact ⟨vs, n, q1, q2, by simpa using q5, q3.mapL fun c u hc => hp _ _ (hcell c u hc)⟩)
  refine h σ a w ⟨hI2.1, fun t' => ?_, hr.size, hr.defers, (hr.pres.trans hI.2).trans hI2.2⟩
  have hlook : ∀ env : Env, lkp (env.map fun x => (x.1, match x.2 with | .one (.row k' v) => if k' = k ∧ v = ver then AV.one (.list t xs) else .one (.row k' v) | v => v)) t' =
      match lkp env t' with | .one (.row k' v) => if k' = k ∧ v = ver then AV.one (.list t xs) else .one (.row k' v) | v => v := by
    intro env
    induction env with
    | nil => rfl
    | cons x env ih =>
      obtain ⟨n, v⟩ := x
      simp only [List.map_cons, lkp]
      by_cases e : t' = n
      · simp only [e, if_true]
      · simp only [e, if_false]; exact ih
  show RV C _ σ w (lkp _ t') _
  rw [hlook]
  have h1 := hr.env t'
  have h2 := hI2.2.rv (hI.2.rv h1)
  split
  · rename_i k' v hv
    split
    · rename_i hkv
      obtain ⟨rfl, rfl⟩ := hkv
      rw [hv] at h1
      exact hI2.2 _ _ (key _ h1)
    · rw [hv] at h2; exact h2
  · exact h2
section
variable {C C' : Ctx} {L L' : List AO} {σ σ' : Sig} {w : World}
end
open Go Go.RowKit in
theorem bn.append_inv {α β : Type} {p : α → β → Prop} : ∀ {as as' : List α} {bs : List β}, bn p (as ++ as') bs → ∃ b1 b2, bs = b1 ++ b2 ∧ bn p as b1 ∧ bn p as' b2
  | [], _, bs, h => ⟨[], bs, rfl, trivial, h⟩
  | a :: as, as', b :: bs, ⟨h1, h2⟩ => by
    obtain ⟨b1, b2, e, q1, q2⟩ := h2.append_inv
    exact ⟨b :: b1, b2, by rw [e]; rfl, ⟨h1, q1⟩, q2⟩
  | _ :: _, _, [], h => h.elim
section
variable {C C' : Ctx} {L L' : List AO} {σ σ' : Sig} {w : World}
end
end Go.AV
