/- Helpers for walks: rows filled one by one, arrays of numbers, tables of numbered keys. -/
import Derived.Test.YtoahhklogohehaaLw
set_option linter.unusedSimpArgs false
set_option linter.unusedVariables false
namespace Go.AV

def kj {α : Type} (f : Nat → α) (d : α) (n k : Nat) : List α := (List.range k).map f ++ List.replicate (n - k) d
theorem xy {α : Type} (f : Nat → α) (d : α) {n k : Nat} (h : k ≤ n) : (kj f d n k).length = n := by simp [kj]; omega
theorem vU {α : Type} (f : Nat → α) (d : α) (n : Nat) : kj f d n 0 = List.replicate n d := by simp [kj]
theorem xV {α : Type} (f : Nat → α) (d : α) (n : Nat) : kj f d n n = (List.range n).map f := by simp [kj]
theorem kA {α : Type} (f : Nat → α) (d : α) {n k : Nat} (h : k < n) : (kj f d n k).set k (f k) = kj f d n (k + 1) := by
  unfold kj
  rw [List.set_append]
  simp only [List.length_map, List.length_range, Nat.lt_irrefl, if_false, Nat.sub_self]
  rw [show n - k = (n - (k + 1)) + 1 by omega, List.replicate_succ, List.set_cons_zero, List.range_succ, List.map_append]
  simp
def fa (l : List Int) : List AC := l.map (AC.int .i64)
theorem bC (l : List Int) : (fa l).length = l.length := by simp [fa]
theorem uP (n : Nat) (z : Int) : List.replicate n (AC.int .i64 z) = fa (List.replicate n z) := by simp [fa]
theorem l5 {l : List Int} {off : Nat} (h : off < l.length) (v : Int) : bY (fa l) off [.int .i64 v] = fa (l.set off v) := by
  unfold bY fa
  apply List.ext_getElem?
  intro i
  simp only [List.getElem?_map, List.getElem?_set, List.getElem?_append, List.length_append, List.length_take, List.length_map, List.length_cons, List.length_nil, List.getElem?_take, List.getElem?_drop]
  rw [Nat.min_eq_left (by omega)]
  by_cases h1 : i < off
  · simp [h1, show i < off + 1 by omega, show ¬ off = i by omega]
  · by_cases h2 : i = off
    · subst h2; simp [h]
    · simp [h1, show ¬ i < off + 1 by omega, show ¬ off = i by omega]
      congr 2
      omega
theorem br (l : List Int) (n : Nat) : (fa l).take n = fa (l.take n) := by simp [fa, List.map_take]
theorem bD (l : List Int) : bK.intsAC (fa l) = some l := vl l

def gu {α : Type} [DecidableEq α] (l : List α) (x : α) : List α := if x ∈ l then l else l ++ [x]
theorem gg {α : Type} [DecidableEq α] {l : List α} {x : α} (h : x ∈ l) : gu l x = l := by unfold gu; rw [if_pos h]
theorem fu {α : Type} [DecidableEq α] {l : List α} {x : α} (h : x ∉ l) : gu l x = l ++ [x] := by unfold gu; rw [if_neg h]
theorem rH {α : Type} [DecidableEq α] {l : List α} {t x : α} : x ∈ gu l t ↔ x ∈ l ∨ x = t := by
  unfold gu
  split
  · rename_i h
    constructor
    · exact .inl
    · rintro (h1 | rfl)
      · exact h1
      · exact h
  · simp
theorem w7 {α : Type} [DecidableEq α] {r : List α} : ∀ {l : List α} {x : α}, x ∈ r.foldl gu l ↔ x ∈ l ∨ x ∈ r := by
  induction r with
  | nil => intro l x; simp
  | cons t r ih => intro l x; simp only [List.foldl_cons, ih, rH, List.mem_cons]; exact or_assoc
theorem vy {α : Type} [DecidableEq α] {l : List α} (h : l.Nodup) (x : α) : (gu l x).Nodup := by
  unfold gu
  split
  · exact h
  · rename_i hx
    rw [List.nodup_append]
    refine ⟨h, by simp, fun a ha b hb => ?_⟩
    simp at hb; subst hb
    intro e; subst e; exact hx ha
theorem vK {α : Type} [DecidableEq α] (r : List α) : ∀ l : List α, ∃ k, r.foldl gu l = l ++ k := by
  induction r with
  | nil => intro l; exact ⟨[], by simp⟩
  | cons t r ih =>
    intro l
    obtain ⟨k2, h2⟩ := ih (gu l t)
    by_cases h : t ∈ l
    · rw [gg h] at h2
      exact ⟨k2, by simp only [List.foldl_cons, gg h]; exact h2⟩
    · rw [fu h] at h2
      exact ⟨t :: k2, by simp only [List.foldl_cons, fu h]; rw [h2]; simp⟩
def dh {α : Type} [DecidableEq α] (f : Nat → α) (k : Nat) : List α := ((List.range k).map f).foldl gu []
theorem dH {α : Type} [DecidableEq α] (f : Nat → α) (k : Nat) : dh f (k + 1) = gu (dh f k) (f k) := by
  unfold dh
  rw [List.range_succ, List.map_append, List.foldl_append]; rfl
theorem g0 {α : Type} [DecidableEq α] {f : Nat → α} {k : Nat} {x : α} : x ∈ dh f k ↔ ∃ i, i < k ∧ f i = x := by
  unfold dh
  rw [w7]
  simp [List.mem_map, List.mem_range]
theorem m7 {α : Type} [DecidableEq α] (f : Nat → α) : ∀ k, (dh f k).length ≤ k
  | 0 => by simp [dh]
  | k + 1 => by
    rw [dH]
    have := m7 f k
    unfold gu
    split <;> simp <;> omega
def pos {α : Type} [DecidableEq α] : List α → α → Nat
  | [], _ => 0
  | y :: l, x => if y = x then 0 else pos l x + 1
theorem i8 {α : Type} [DecidableEq α] {x : α} : ∀ {l : List α}, x ∈ l → pos l x < l.length
  | [], h => by cases h
  | y :: l, h => by
    simp only [pos]
    split
    · simp
    · rename_i e
      rcases List.mem_cons.1 h with h | h
      · exact absurd h.symm e
      · have := i8 h
        simp; omega
theorem uT {α : Type} [DecidableEq α] {x : α} : ∀ {l : List α}, x ∉ l → pos l x = l.length
  | [], _ => rfl
  | y :: l, h => by
    simp only [List.mem_cons, not_or] at h
    simp only [pos]
    rw [if_neg (Ne.symm h.1), uT h.2]; rfl
theorem j9 {α : Type} [DecidableEq α] {x : α} : ∀ {l : List α}, x ∈ l → l[pos l x]? = some x
  | [], h => by cases h
  | y :: l, h => by
    simp only [pos]
    split
    · rename_i e; simp [e]
    · rename_i e
      rcases List.mem_cons.1 h with h | h
      · exact absurd h.symm e
      · simpa using j9 h
theorem yT {α : Type} [DecidableEq α] {l : List α} {x y : α} (hx : x ∈ l) (hy : y ∈ l) (h : pos l x = pos l y) : x = y := by
  have h1 := j9 hx
  have h2 := j9 hy
  rw [h, h2] at h1
  exact (Option.some.inj h1).symm
theorem iC {α : Type} [DecidableEq α] {x : α} : ∀ {l : List α} (r : List α), x ∈ l → pos (l ++ r) x = pos l x
  | [], _, h => by cases h
  | y :: l, r, h => by
    simp only [List.cons_append, pos]
    split
    · rfl
    · rename_i e
      rcases List.mem_cons.1 h with h | h
      · exact absurd h.symm e
      · rw [iC r h]
theorem sC {α : Type} [DecidableEq α] {x : α} {l : List α} (h : x ∉ l) : pos (l ++ [x]) x = l.length := by
  induction l with
  | nil => simp [pos]
  | cons y l ih =>
    simp only [List.mem_cons, not_or] at h
    simp only [List.cons_append, pos]
    rw [if_neg (Ne.symm h.1), ih h.2]; rfl
theorem uG {α : Type} (f : Nat → α) (d : α) {n i : Nat} (h : i < n) : ((List.range n).map f).getD i d = f i := by simp [List.getD, h]
theorem nq {α : Type} [DecidableEq α] (f : Nat → α) {i k : Nat} (h : i < k) : ∀ n, k ≤ n → pos (dh f n) (f i) = pos (dh f k) (f i)
  | 0, hn => by omega
  | n + 1, hn => by
    by_cases e : k = n + 1
    · subst e; rfl
    · rw [← nq f h n (by omega), dH]
      have hm : f i ∈ dh f n := g0.2 ⟨i, by omega, rfl⟩
      unfold gu
      split
      · rfl
      · exact iC _ hm

def fN (i : Int) : List (List Int) → List (KV × Int)
  | [] => []
  | x :: r => (.arr x, i) :: fN (i + 1) r
def nM (l : List (List Int)) : List (KV × Int) := fN 0 l
theorem vq (l : List (List Int)) : ∀ i, (fN i l).length = l.length := by
  induction l with
  | nil => intro i; rfl
  | cons x l ih => intro i; simp [fN, ih]
theorem rV (l : List (List Int)) : (nM l).length = l.length := vq l 0
theorem uY (l r : List (List Int)) : ∀ i, fN i (l ++ r) = fN i l ++ fN (i + l.length) r := by
  induction l with
  | nil => intro i; simp [fN]
  | cons x l ih => intro i; simp only [List.cons_append, fN, ih, List.length_cons]; rw [show i + 1 + (l.length : Int) = i + ((l.length + 1 : Nat) : Int) by omega]
theorem sQ (l : List (List Int)) (x : List Int) : ∀ i, dU (fN i l) (.arr x) = if x ∈ l then some (i + (pos l x : Int)) else none := by
  induction l with
  | nil => intro i; rfl
  | cons y l ih =>
    intro i
    simp only [fN, dU]
    by_cases e : y = x
    · subst e; simp [pos]
    · rw [if_neg (by intro h; cases h; exact e rfl), ih]
      by_cases hm : x ∈ l
      · rw [if_pos hm, if_pos (by simp [hm])]
        simp only [pos]
        rw [if_neg e]
        congr 1
        omega
      · rw [if_neg hm, if_neg (by simp [hm, Ne.symm e])]
theorem fT (l : List (List Int)) (x : List Int) : dU (nM l) (.arr x) = if x ∈ l then some (pos l x : Int) else none := by
  unfold nM; rw [sQ]; simp
theorem rW {l : List (List Int)} {x : List Int} (h : x ∉ l) : gR (nM l) (.arr x) (l.length : Int) = nM (l ++ [x]) := by
  unfold gR
  rw [fT, if_neg h]
  simp [nM, uY, fN]
theorem eF {α : Type} [DecidableEq α] : ∀ (l R : List α), l.Nodup → (∀ x, x ∈ l → x ∈ R) → l.length ≤ R.length
  | [], _, _, _ => by simp
  | x :: l, R, h, hs => by
    have hx : x ∈ R := hs x (by simp)
    rw [List.nodup_cons] at h
    have h1 := eF l (R.erase x) h.2 fun y hy => by
      have hne : y ≠ x := fun e => h.1 (e ▸ hy)
      exact (List.mem_erase_of_ne hne).2 (hs y (by simp [hy]))
    have h2 : (R.erase x).length + 1 = R.length := by
      rw [List.length_erase, if_pos (by simpa using hx)]
      have : 0 < R.length := List.length_pos_of_mem hx
      omega
    simp only [List.length_cons]; omega

open Go Go.RowKit in
theorem kC {C : Ctx} {Q : Exit → St → Prop} {s : St} {c : Code} (k : Nat) {ob : AO} (hk : s.L[k]? = some ob) (h : AWP C c Q { env := s.env, L := s.L.set k (.dead ob.ver) }) : AWP C c Q s := by
  intro σ a w hr
  have hlt : k < s.L.length := (List.getElem?_eq_some_iff.1 hk).1
  have hI := dv (C := C) (L' := s.L.set k (.dead ob.ver)) (σ' := σ) (w' := w) k hr.inv (Nat.le_refl _) rfl rfl rfl (fun _ _ _ => rfl) (fun j hj => by rw [List.getElem?_set_ne (Ne.symm hj)]) (fun _ _ => rfl)
    (fun ob' e => by rw [hk] at e; cases e; exact ⟨.dead ob.ver, by simp [hlt], Nat.le_refl _, fun h => by cases h⟩)
    (fun b ⟨ob', e1, e2, _⟩ => by simp [hlt] at e1; subst e1; cases e2)
    (fun _ _ ob' e => by simp [hlt] at e; subst e; trivial)
  exact h σ a w ⟨hI.1, fun t => hI.2.rv (hr.env t), hr.size, hr.defers, hr.pres.trans hI.2⟩

open Go Go.RowKit in
theorem mA {C : Ctx} {Q : Exit → St → Prop} {s : St} {c : Code} {L1 : List AO} {ob : AO} (hL : s.L = L1 ++ [ob]) (hB : C.bL = []) (he : s.env.all (fun x => gL L1.length x.2) = true) (ho : L1.all (cR L1.length) = true)
    (h : AWP C c Q { env := s.env, L := L1 }) : AWP C c Q s := by
  refine kC L1.length (ob := ob) (by rw [hL]; simp) ?_
  refine cF (L1 := L1) (ver := ob.ver) (n := L1.length) ?_ rfl (by rw [hB]; exact Nat.zero_le _) he ho h
  show s.L.set L1.length _ = _
  rw [hL, List.set_append]
  simp

section
variable {e : Go.TypeId} {f : Nat → List Bool} {n i : Nat} {X : List AO} {x : AO}
end

open Go Go.RowKit in
theorem kz {C : Ctx} {Q : Exit → St → Prop} {s : St} {c : Code} (h : AWP C c Q { env := s.env, L := s.L ++ [.dead 0] }) : AWP C c Q s := by
  intro σ a w hr
  have hd := dO (C := C) (L := s.L) (σ := σ) (w := w) (w' := w) (v := .undef) (fp := []) (u := undef) (g := undef) (ob := .dead 0) hr.inv (Nat.le_refl _) rfl rfl rfl (fun _ _ => rfl) (fun b hb => by cases hb) (fun _ => trivial) trivial
  obtain ⟨σ', d1, _, d3⟩ := hd
  have happ : app s.L { av := .undef, new := [.dead 0], fp := [] } = s.L ++ [.dead 0] := rfl
  rw [happ] at d1 d3
  exact h σ' a w ⟨d1, fun t => d3.rv (hr.env t), hr.size, hr.defers, hr.pres.trans d3⟩

def o4 (f : Nat → Nat) (t : List Nat × List Nat × Nat) : List Nat × List Nat × Nat := (t.1.map f, t.2.1.map f, t.2.2)
section
variable {f : Nat → Nat} (hf : ∀ x y, f x = f y → x = y)
include hf
theorem mZ {a b : List Nat} (h : kg a b = true) : kg (a.map f) (b.map f) = true := by
  refine List.all_eq_true.2 fun x hx => ?_
  obtain ⟨u, hu, rfl⟩ := List.mem_map.1 hx
  have := fV h hu
  simp only [Bool.not_eq_true', List.contains_eq_mem, decide_eq_false_iff_not]
  intro hm
  obtain ⟨v, hv, e⟩ := List.mem_map.1 hm
  exact this (hf v u e ▸ hv)
theorem wg {ops : List Go.Oper} {oi oj : Go.Oper} {ti tj : List Nat × List Nat × Nat} (h : fk ops oi oj ti tj = true) : fk ops oi oj (o4 f ti) (o4 f tj) = true := by
  simp only [fk, Bool.and_eq_true, o4] at *
  obtain ⟨⟨⟨⟨⟨h1, h2⟩, h3⟩, h4⟩, h5⟩, h6⟩ := h
  exact ⟨⟨⟨⟨⟨h1, h2⟩, h3⟩, mZ hf h4⟩, mZ hf h5⟩, mZ hf h6⟩
theorem o0 {ops : List Go.Oper} {mask : Nat} {oj : Go.Oper} {tj : List Nat × List Nat × Nat} : ∀ {i : Nat} {os : List Go.Oper} {ts : Tr}, f8 ops mask oj tj i os ts = true → f8 ops mask oj (o4 f tj) i os (ts.map (o4 f)) = true
  | _, [], _, _ => rfl
  | i, oi :: os, t :: ts, h => by
    simp only [f8, List.map_cons, Bool.and_eq_true, Bool.or_eq_true] at *
    refine ⟨?_, o0 h.2⟩
    rcases h.1 with h1 | h1
    · exact .inl h1
    · exact .inr (wg hf h1)
  | _, _ :: _, [], h => by cases h
theorem nK {ops : List Go.Oper} {tr : Tr} {masks : List Nat} : ∀ {j : Nat} {os : List Go.Oper} {ts : Tr}, fM ops tr masks j os ts = true → fM ops (tr.map (o4 f)) masks j os (ts.map (o4 f)) = true
  | _, [], [], _ => rfl
  | j, o :: os, t :: ts, h => by
    simp only [fM, List.map_cons, Bool.and_eq_true] at *
    refine ⟨⟨h.1.1, ?_⟩, nK h.2⟩
    rw [← List.map_take]
    exact o0 hf h.1.2
  | _, [], _ :: _, h => by cases h
  | _, _ :: _, [], h => by cases h
theorem qD {ops : List Go.Oper} (tr : Tr) (h : kb ops tr = true) : kb ops (tr.map (o4 f)) = true := nK hf h
end
def cdf (n k : Nat) : Nat := if k < 4 then k else n + k
theorem vg (n : Nat) : ∀ x y, cdf n x = cdf n y → x = y := by
  intro x y h
  unfold cdf at h
  split at h <;> split at h <;> omega

theorem iF {C : Ctx} {Q : Exit → St → Prop} {s : St} {c : Code} (k : Nat) {v v' : AV} (hk : lkp s.env k = v) (hv : VLE v v')
    (h : AWP C c Q { env := (k, v') :: s.env, L := s.L }) : AWP C c Q s := by
  intro σ a w hr
  refine h σ a w ⟨hr.inv, fun t => ?_, hr.size, hr.defers, hr.pres⟩
  simp only [lkp]
  by_cases e : t = k
  · rw [if_pos e, e]
    have := hr.env k
    rw [hk] at this
    exact hv _ _ _ _ _ this
  · rw [if_neg e]; exact hr.env t
def frC (k ver : Nat) (t : Ty) (xs : List t.den) : AC → AC
  | .row k' v => if k' = k ∧ v = ver then .list t xs else .row k' v
  | c => c
open Go Go.RowKit in
theorem jP {C : Ctx} {Q : Exit → St → Prop} {s : St} {c : Code} (k m : Nat) {t : Ty} {e T : TypeId} {ver : Nat} {xs : List t.den} {cs : List AC} (hk : s.L[k]? = some (.row t e ver xs)) (hm : s.L[m]? = some (.vars T cs))
    (h : AWP C c Q { env := s.env.map fun x => (x.1, match x.2 with | .one (.row k' v) => if k' = k ∧ v = ver then .one (.list t xs) else .one (.row k' v) | v => v), L := (s.L.set k (.dead ver)).set m (.vars T (cs.map (frC k ver t xs))) }) : AWP C c Q s := by
  intro σ a w hr
  have hkm : m ≠ k := by rintro rfl; rw [hk] at hm; cases hm
  have hlt : k < s.L.length := (List.getElem?_eq_some_iff.1 hk).1
  have hltm : m < s.L.length := (List.getElem?_eq_some_iff.1 hm).1
  have hI := dv (C := C) (L' := s.L.set k (.dead ver)) (σ' := σ) (w' := w) k hr.inv (Nat.le_refl _) rfl rfl rfl (fun _ _ _ => rfl) (fun j hj => by rw [List.getElem?_set_ne (Ne.symm hj)]) (fun _ _ => rfl)
    (fun ob e => by rw [hk] at e; cases e; exact ⟨.dead ver, by simp [hlt], Nat.le_refl _, fun h => by cases h⟩)
    (fun b ⟨ob, e1, e2, _⟩ => by simp [hlt] at e1; subst e1; cases e2)
    (fun _ _ ob e => by simp [hlt] at e; subst e; trivial)
  have key : ∀ u, RC C s.L σ w (.row k ver) u → RC C (s.L.set k (.dead ver)) σ w (.list t xs) u := by
    intro u h1
    obtain ⟨h3, ob, h4, h5, h6⟩ := h1
    rw [hk] at h4; cases h4
    obtain ⟨_, h7⟩ := h6 rfl rfl
    refine ⟨h3, ?_⟩
    obtain ⟨flat, h8, h9, h10⟩ := hr.inv.ob k _ hk
    show Dat _ w (.list t) xs [_]
    rw [h7]
    have hown : ∀ b, avd C (s.L.set k (.dead ver)) σ b → avd C s.L σ b := by
      rintro b (hx | ⟨j, ob, e1, e2, e3⟩)
      · exact .inl hx
      · by_cases ej : j = k
        · subst ej; simp [hlt] at e1; subst e1; cases e2
        · rw [List.getElem?_set_ne (Ne.symm ej)] at e1
          exact .inr ⟨j, ob, e1, e2, e3⟩
    rcases h8.2 with ⟨e1, e2⟩ | ⟨g, cap, cur, e1, _, e3, e4, e5, e6, e7⟩
    · rw [e1]
      have : xs = [] := List.eq_nil_of_length_eq_zero e2
      subst this
      exact fG t
    · rw [e1]
      refine ⟨some ⟨g, 0, none⟩, cap, rfl, e4, ⟨e5, fun h => by cases h⟩, fun _ => ⟨g, 0, rfl, ?_, (Array.getElem?_eq_some_iff.1 e3).1, fun i hi => ⟨_, (h10 i hi).length, fun j hj => ?_, (h10 i hi).keep (Nat.le_refl _) (fun _ _ _ => rfl) (fun b _ hb => hown b hb)⟩⟩⟩
      · have hg : own s.L σ k g := ⟨_, hk, rfl, by rw [e1]; rfl⟩
        rintro (hx | ⟨j, ob, q1, q2, q3⟩)
        · exact (hr.inv.off k g hg).2 hx
        · by_cases ej : j = k
          · subst ej; simp [hlt] at q1; subst q1; cases q2
          · rw [List.getElem?_set_ne (Ne.symm ej)] at q1
            exact ej (hr.inv.inj j k g ⟨ob, q1, q2, q3⟩ hg)
      · have hm : (i + 1) * t.size ≤ xs.length * t.size := Nat.mul_le_mul_right _ hi
        rw [Nat.add_mul, Nat.one_mul] at hm
        rw [eR e3, List.getElem?_take_of_lt hj, List.getElem?_drop, ← e7, List.getElem?_take_of_lt (by omega)]
        simp
  have hcell : ∀ c u, RC C s.L σ w c u → RC C (s.L.set k (.dead ver)) σ w (frC k ver t xs c) u := by
    intro c u hc
    cases c with
    | row k' v =>
      simp only [frC]
      split
      · rename_i hh; obtain ⟨rfl, rfl⟩ := hh; exact key u hc
      · exact hI.2 _ _ hc
    | _ => exact hI.2 _ _ hc
  have hm1 : (s.L.set k (.dead ver))[m]? = some (.vars T cs) := by rw [List.getElem?_set_ne (Ne.symm hkm)]; exact hm
  have hI2 := dv (C := C) (L' := (s.L.set k (.dead ver)).set m (.vars T (cs.map (frC k ver t xs)))) (σ' := σ) (w' := w) m hI.1 (Nat.le_refl _) rfl rfl rfl (fun _ _ _ => rfl) (fun j hj => by rw [List.getElem?_set_ne (Ne.symm hj)]) (fun _ _ => rfl)
    (fun ob e => by rw [hm1] at e; cases e; exact ⟨.vars T (cs.map (frC k ver t xs)), by simp [hltm], Nat.le_refl _, fun _ _ => ⟨rfl, rfl, rfl, trivial⟩⟩)
    (fun b ⟨ob, e1, e2, e3⟩ => .inl ⟨.vars T cs, hm1, rfl, e3⟩)
    (fun hp _ ob e => by
      simp [hltm] at e; subst e
      obtain ⟨b, vs, q1, q2, q3⟩ := hr.inv.ob m _ hm
      exact ⟨b, vs, q1, q2, q3.mapL fun c u hc => hp _ _ (hcell c u hc)⟩)
  refine h σ a w ⟨hI2.1, fun t' => ?_, hr.size, hr.defers, (hr.pres.trans hI.2).trans hI2.2⟩
  have hlook : ∀ env : Env, lkp (env.map fun x => (x.1, match x.2 with | .one (.row k' v) => if k' = k ∧ v = ver then AV.one (.list t xs) else .one (.row k' v) | v => v)) t' =
      match lkp env t' with | .one (.row k' v) => if k' = k ∧ v = ver then AV.one (.list t xs) else .one (.row k' v) | v => v := by
    intro env
    induction env with
    | nil => rfl
    | cons x env ih =>
      obtain ⟨n, v⟩ := x
      simp only [List.map_cons, lkp]
      by_cases e : t' = n
      · simp only [e, if_true]
      · simp only [e, if_false]; exact ih
  show RV C _ σ w (lkp _ t') _
  rw [hlook]
  have h1 := hr.env t'
  have h2 := hI2.2.rv (hI.2.rv h1)
  split
  · rename_i k' v hv
    split
    · rename_i hkv
      obtain ⟨rfl, rfl⟩ := hkv
      rw [hv] at h1
      exact hI2.2 _ _ (key _ h1)
    · rw [hv] at h2; exact h2
  · exact h2
open Go Go.RowKit in
theorem cw {C : Ctx} {Q : Exit → St → Prop} {s : St} {c : Code} (k m : Nat) {t : Ty} {e T : TypeId} {ver sz v9 : Nat} {xs : List t.den} {cs : List AC} (hk : s.L[k]? = some (.row t e ver xs)) (hm : s.L[m]? = some (.rowc T sz v9 cs))
    (h : AWP C c Q { env := s.env.map fun x => (x.1, match x.2 with | .one (.row k' v) => if k' = k ∧ v = ver then .one (.list t xs) else .one (.row k' v) | v => v), L := (s.L.set k (.dead ver)).set m (.rowc T sz v9 (cs.map (frC k ver t xs))) }) : AWP C c Q s := by
  intro σ a w hr
  have hkm : m ≠ k := by rintro rfl; rw [hk] at hm; cases hm
  have hlt : k < s.L.length := (List.getElem?_eq_some_iff.1 hk).1
  have hltm : m < s.L.length := (List.getElem?_eq_some_iff.1 hm).1
  have hI := dv (C := C) (L' := s.L.set k (.dead ver)) (σ' := σ) (w' := w) k hr.inv (Nat.le_refl _) rfl rfl rfl (fun _ _ _ => rfl) (fun j hj => by rw [List.getElem?_set_ne (Ne.symm hj)]) (fun _ _ => rfl)
    (fun ob e => by rw [hk] at e; cases e; exact ⟨.dead ver, by simp [hlt], Nat.le_refl _, fun h => by cases h⟩)
    (fun b ⟨ob, e1, e2, _⟩ => by simp [hlt] at e1; subst e1; cases e2)
    (fun _ _ ob e => by simp [hlt] at e; subst e; trivial)
  have key : ∀ u, RC C s.L σ w (.row k ver) u → RC C (s.L.set k (.dead ver)) σ w (.list t xs) u := by
    intro u h1
    obtain ⟨h3, ob, h4, h5, h6⟩ := h1
    rw [hk] at h4; cases h4
    obtain ⟨_, h7⟩ := h6 rfl rfl
    refine ⟨h3, ?_⟩
    obtain ⟨flat, h8, h9, h10⟩ := hr.inv.ob k _ hk
    show Dat _ w (.list t) xs [_]
    rw [h7]
    have hown : ∀ b, avd C (s.L.set k (.dead ver)) σ b → avd C s.L σ b := by
      rintro b (hx | ⟨j, ob, e1, e2, e3⟩)
      · exact .inl hx
      · by_cases ej : j = k
        · subst ej; simp [hlt] at e1; subst e1; cases e2
        · rw [List.getElem?_set_ne (Ne.symm ej)] at e1
          exact .inr ⟨j, ob, e1, e2, e3⟩
    rcases h8.2 with ⟨e1, e2⟩ | ⟨g, cap, cur, e1, _, e3, e4, e5, e6, e7⟩
    · rw [e1]
      have : xs = [] := List.eq_nil_of_length_eq_zero e2
      subst this
      exact fG t
    · rw [e1]
      refine ⟨some ⟨g, 0, none⟩, cap, rfl, e4, ⟨e5, fun h => by cases h⟩, fun _ => ⟨g, 0, rfl, ?_, (Array.getElem?_eq_some_iff.1 e3).1, fun i hi => ⟨_, (h10 i hi).length, fun j hj => ?_, (h10 i hi).keep (Nat.le_refl _) (fun _ _ _ => rfl) (fun b _ hb => hown b hb)⟩⟩⟩
      · have hg : own s.L σ k g := ⟨_, hk, rfl, by rw [e1]; rfl⟩
        rintro (hx | ⟨j, ob, q1, q2, q3⟩)
        · exact (hr.inv.off k g hg).2 hx
        · by_cases ej : j = k
          · subst ej; simp [hlt] at q1; subst q1; cases q2
          · rw [List.getElem?_set_ne (Ne.symm ej)] at q1
            exact ej (hr.inv.inj j k g ⟨ob, q1, q2, q3⟩ hg)
      · have hm : (i + 1) * t.size ≤ xs.length * t.size := Nat.mul_le_mul_right _ hi
        rw [Nat.add_mul, Nat.one_mul] at hm
        rw [eR e3, List.getElem?_take_of_lt hj, List.getElem?_drop, ← e7, List.getElem?_take_of_lt (by omega)]
        simp
  have hcell : ∀ c u, RC C s.L σ w c u → RC C (s.L.set k (.dead ver)) σ w (frC k ver t xs c) u := by
    intro c u hc
    cases c with
    | row k' v =>
      simp only [frC]
      split
      · rename_i hh; obtain ⟨rfl, rfl⟩ := hh; exact key u hc
      · exact hI.2 _ _ hc
    | _ => exact hI.2 _ _ hc
  have hm1 : (s.L.set k (.dead ver))[m]? = some (.rowc T sz v9 cs) := by rw [List.getElem?_set_ne (Ne.symm hkm)]; exact hm
  have hI2 := dv (C := C) (L' := (s.L.set k (.dead ver)).set m (.rowc T sz v9 (cs.map (frC k ver t xs)))) (σ' := σ) (w' := w) m hI.1 (Nat.le_refl _) rfl rfl rfl (fun _ _ _ => rfl) (fun j hj => by rw [List.getElem?_set_ne (Ne.symm hj)]) (fun _ _ => rfl)
    (fun ob e => by rw [hm1] at e; cases e; exact ⟨.rowc T sz v9 (cs.map (frC k ver t xs)), by simp [hltm], Nat.le_refl _, fun _ _ => ⟨rfl, rfl, rfl, _, rfl⟩⟩)
    (fun b ⟨ob, e1, e2, e3⟩ => .inl ⟨.rowc T sz v9 cs, hm1, rfl, e3⟩)
    (fun hp _ ob e => by
      simp [hltm] at e; subst e
      obtain ⟨vs, n, q1, q2, q5, q3⟩ := hr.inv.ob m _ hm
      exact ⟨vs, n, q1, q2, by simpa using q5, q3.mapL fun c u hc => hp _ _ (hcell c u hc)⟩)
  refine h σ a w ⟨hI2.1, fun t' => ?_, hr.size, hr.defers, (hr.pres.trans hI.2).trans hI2.2⟩
  have hlook : ∀ env : Env, lkp (env.map fun x => (x.1, match x.2 with | .one (.row k' v) => if k' = k ∧ v = ver then AV.one (.list t xs) else .one (.row k' v) | v => v)) t' =
      match lkp env t' with | .one (.row k' v) => if k' = k ∧ v = ver then AV.one (.list t xs) else .one (.row k' v) | v => v := by
    intro env
    induction env with
    | nil => rfl
    | cons x env ih =>
      obtain ⟨n, v⟩ := x
      simp only [List.map_cons, lkp]
      by_cases e : t' = n
      · simp only [e, if_true]
      · simp only [e, if_false]; exact ih
  show RV C _ σ w (lkp _ t') _
  rw [hlook]
  have h1 := hr.env t'
  have h2 := hI2.2.rv (hI.2.rv h1)
  split
  · rename_i k' v hv
    split
    · rename_i hkv
      obtain ⟨rfl, rfl⟩ := hkv
      rw [hv] at h1
      exact hI2.2 _ _ (key _ h1)
    · rw [hv] at h2; exact h2
  · exact h2
section
variable {C C' : Ctx} {L L' : List AO} {σ σ' : Sig} {w : World}
end
open Go Go.RowKit in
theorem bn.append_inv {α β : Type} {p : α → β → Prop} : ∀ {as as' : List α} {bs : List β}, bn p (as ++ as') bs → ∃ b1 b2, bs = b1 ++ b2 ∧ bn p as b1 ∧ bn p as' b2
  | [], _, bs, h => ⟨[], bs, rfl, trivial, h⟩
  | a :: as, as', b :: bs, ⟨h1, h2⟩ => by
    obtain ⟨b1, b2, e, q1, q2⟩ := h2.append_inv
    exact ⟨b :: b1, b2, by rw [e]; rfl, ⟨h1, q1⟩, q2⟩
  | _ :: _, _, [], h => h.elim
section
variable {C C' : Ctx} {L L' : List AO} {σ σ' : Sig} {w : World}
end
end Go.AV
