/- Helpers for walks: rows filled one by one, arrays of numbers, tables of numbered keys. -/
import Derived.Test.YtfbnhgefkdhiaaaLw
set_option linter.unusedSimpArgs false
set_option linter.unusedVariables false
namespace Go.AV

/-- A list whose first k places are filled. -/
def setF {α : Type} (f : Nat → α) (d : α) (n k : Nat) : List α := (List.range k).map f ++ List.replicate (n - k) d
theorem setF_len {α : Type} (f : Nat → α) (d : α) {n k : Nat} (h : k ≤ n) : (setF f d n k).length = n := by simp [setF]; omega
theorem setF_zero {α : Type} (f : Nat → α) (d : α) (n : Nat) : setF f d n 0 = List.replicate n d := by simp [setF]
theorem setF_all {α : Type} (f : Nat → α) (d : α) (n : Nat) : setF f d n n = (List.range n).map f := by simp [setF]
theorem setF_set {α : Type} (f : Nat → α) (d : α) {n k : Nat} (h : k < n) : (setF f d n k).set k (f k) = setF f d n (k + 1) := by
  unfold setF
  rw [List.set_append]
  simp only [List.length_map, List.length_range, Nat.lt_irrefl, if_false, Nat.sub_self]
  rw [show n - k = (n - (k + 1)) + 1 by omega, List.replicate_succ, List.set_cons_zero, List.range_succ, List.map_append]
  simp
/-- Numbers as cells. -/
def icells (l : List Int) : List AC := l.map (AC.int .i64)
theorem icells_len (l : List Int) : (icells l).length = l.length := by simp [icells]
theorem icells_rep (n : Nat) (z : Int) : List.replicate n (AC.int .i64 z) = icells (List.replicate n z) := by simp [icells]
theorem icells_write {l : List Int} {off : Nat} (h : off < l.length) (v : Int) : writeAC (icells l) off [.int .i64 v] = icells (l.set off v) := by
  unfold writeAC icells
  apply List.ext_getElem?
  intro i
  simp only [List.getElem?_map, List.getElem?_set, List.getElem?_append, List.length_append, List.length_take, List.length_map, List.length_cons, List.length_nil, List.getElem?_take, List.getElem?_drop]
  rw [Nat.min_eq_left (by omega)]
  by_cases h1 : i < off
  · simp [h1, show i < off + 1 by omega, show ¬ off = i by omega]
  · by_cases h2 : i = off
    · subst h2; simp [h]
    · simp [h1, show ¬ i < off + 1 by omega, show ¬ off = i by omega]
      congr 2
      omega
theorem icells_take (l : List Int) (n : Nat) : (icells l).take n = icells (l.take n) := by simp [icells, List.map_take]
theorem icells_key (l : List Int) : keyAV.intsAC (icells l) = some l := ints_ac l

/-- Added at the end, if it is not there. -/
def addG {α : Type} [DecidableEq α] (l : List α) (x : α) : List α := if x ∈ l then l else l ++ [x]
theorem addG_in {α : Type} [DecidableEq α] {l : List α} {x : α} (h : x ∈ l) : addG l x = l := by unfold addG; rw [if_pos h]
theorem addG_out {α : Type} [DecidableEq α] {l : List α} {x : α} (h : x ∉ l) : addG l x = l ++ [x] := by unfold addG; rw [if_neg h]
theorem addG_mem {α : Type} [DecidableEq α] {l : List α} {t x : α} : x ∈ addG l t ↔ x ∈ l ∨ x = t := by
  unfold addG
  split
  · rename_i h
    constructor
    · exact .inl
    · rintro (h1 | rfl)
      · exact h1
      · exact h
  · simp
theorem foldG_mem {α : Type} [DecidableEq α] {r : List α} : ∀ {l : List α} {x : α}, x ∈ r.foldl addG l ↔ x ∈ l ∨ x ∈ r := by
  induction r with
  | nil => intro l x; simp
  | cons t r ih => intro l x; simp only [List.foldl_cons, ih, addG_mem, List.mem_cons]; exact or_assoc
theorem addG_nodup {α : Type} [DecidableEq α] {l : List α} (h : l.Nodup) (x : α) : (addG l x).Nodup := by
  unfold addG
  split
  · exact h
  · rename_i hx
    rw [List.nodup_append]
    refine ⟨h, by simp, fun a ha b hb => ?_⟩
    simp at hb; subst hb
    intro e; subst e; exact hx ha
theorem foldG_pre {α : Type} [DecidableEq α] (r : List α) : ∀ l : List α, ∃ k, r.foldl addG l = l ++ k := by
  induction r with
  | nil => intro l; exact ⟨[], by simp⟩
  | cons t r ih =>
    intro l
    obtain ⟨k2, h2⟩ := ih (addG l t)
    by_cases h : t ∈ l
    · rw [addG_in h] at h2
      exact ⟨k2, by simp only [List.foldl_cons, addG_in h]; exact h2⟩
    · rw [addG_out h] at h2
      exact ⟨t :: k2, by simp only [List.foldl_cons, addG_out h]; rw [h2]; simp⟩
/-- The different values of a function, in the order of their first places. -/
def difs {α : Type} [DecidableEq α] (f : Nat → α) (k : Nat) : List α := ((List.range k).map f).foldl addG []
theorem difs_succ {α : Type} [DecidableEq α] (f : Nat → α) (k : Nat) : difs f (k + 1) = addG (difs f k) (f k) := by
  unfold difs
  rw [List.range_succ, List.map_append, List.foldl_append]; rfl
theorem difs_mem {α : Type} [DecidableEq α] {f : Nat → α} {k : Nat} {x : α} : x ∈ difs f k ↔ ∃ i, i < k ∧ f i = x := by
  unfold difs
  rw [foldG_mem]
  simp [List.mem_map, List.mem_range]
theorem difs_le {α : Type} [DecidableEq α] (f : Nat → α) : ∀ k, (difs f k).length ≤ k
  | 0 => by simp [difs]
  | k + 1 => by
    rw [difs_succ]
    have := difs_le f k
    unfold addG
    split <;> simp <;> omega
/-- The place of an element; the length, if it is not there. -/
def pos {α : Type} [DecidableEq α] : List α → α → Nat
  | [], _ => 0
  | y :: l, x => if y = x then 0 else pos l x + 1
theorem pos_lt {α : Type} [DecidableEq α] {x : α} : ∀ {l : List α}, x ∈ l → pos l x < l.length
  | [], h => by cases h
  | y :: l, h => by
    simp only [pos]
    split
    · simp
    · rename_i e
      rcases List.mem_cons.1 h with h | h
      · exact absurd h.symm e
      · have := pos_lt h
        simp; omega
theorem pos_out {α : Type} [DecidableEq α] {x : α} : ∀ {l : List α}, x ∉ l → pos l x = l.length
  | [], _ => rfl
  | y :: l, h => by
    simp only [List.mem_cons, not_or] at h
    simp only [pos]
    rw [if_neg (Ne.symm h.1), pos_out h.2]; rfl
theorem get_pos {α : Type} [DecidableEq α] {x : α} : ∀ {l : List α}, x ∈ l → l[pos l x]? = some x
  | [], h => by cases h
  | y :: l, h => by
    simp only [pos]
    split
    · rename_i e; simp [e]
    · rename_i e
      rcases List.mem_cons.1 h with h | h
      · exact absurd h.symm e
      · simpa using get_pos h
theorem pos_inj {α : Type} [DecidableEq α] {l : List α} {x y : α} (hx : x ∈ l) (hy : y ∈ l) (h : pos l x = pos l y) : x = y := by
  have h1 := get_pos hx
  have h2 := get_pos hy
  rw [h, h2] at h1
  exact (Option.some.inj h1).symm
theorem pos_append {α : Type} [DecidableEq α] {x : α} : ∀ {l : List α} (r : List α), x ∈ l → pos (l ++ r) x = pos l x
  | [], _, h => by cases h
  | y :: l, r, h => by
    simp only [List.cons_append, pos]
    split
    · rfl
    · rename_i e
      rcases List.mem_cons.1 h with h | h
      · exact absurd h.symm e
      · rw [pos_append r h]
theorem pos_last {α : Type} [DecidableEq α] {x : α} {l : List α} (h : x ∉ l) : pos (l ++ [x]) x = l.length := by
  induction l with
  | nil => simp [pos]
  | cons y l ih =>
    simp only [List.mem_cons, not_or] at h
    simp only [List.cons_append, pos]
    rw [if_neg (Ne.symm h.1), ih h.2]; rfl
theorem mr_getD {α : Type} (f : Nat → α) (d : α) {n i : Nat} (h : i < n) : ((List.range n).map f).getD i d = f i := by simp [List.getD, h]
theorem difs_idx {α : Type} [DecidableEq α] (f : Nat → α) {i k : Nat} (h : i < k) : ∀ n, k ≤ n → pos (difs f n) (f i) = pos (difs f k) (f i)
  | 0, hn => by omega
  | n + 1, hn => by
    by_cases e : k = n + 1
    · subst e; rfl
    · rw [← difs_idx f h n (by omega), difs_succ]
      have hm : f i ∈ difs f n := difs_mem.2 ⟨i, by omega, rfl⟩
      unfold addG
      split
      · rfl
      · exact pos_append _ hm

/-- A table that gives each key its place in a list. -/
def mpFrom (i : Int) : List (List Int) → List (KV × Int)
  | [] => []
  | x :: r => (.arr x, i) :: mpFrom (i + 1) r
def mpOf (l : List (List Int)) : List (KV × Int) := mpFrom 0 l
theorem mpFrom_len (l : List (List Int)) : ∀ i, (mpFrom i l).length = l.length := by
  induction l with
  | nil => intro i; rfl
  | cons x l ih => intro i; simp [mpFrom, ih]
theorem mpOf_len (l : List (List Int)) : (mpOf l).length = l.length := mpFrom_len l 0
theorem mpFrom_app (l r : List (List Int)) : ∀ i, mpFrom i (l ++ r) = mpFrom i l ++ mpFrom (i + l.length) r := by
  induction l with
  | nil => intro i; simp [mpFrom]
  | cons x l ih => intro i; simp only [List.cons_append, mpFrom, ih, List.length_cons]; rw [show i + 1 + (l.length : Int) = i + ((l.length + 1 : Nat) : Int) by omega]
theorem mpFrom_look (l : List (List Int)) (x : List Int) : ∀ i, mlook (mpFrom i l) (.arr x) = if x ∈ l then some (i + (pos l x : Int)) else none := by
  induction l with
  | nil => intro i; rfl
  | cons y l ih =>
    intro i
    simp only [mpFrom, mlook]
    by_cases e : y = x
    · subst e; simp [pos]
    · rw [if_neg (by intro h; cases h; exact e rfl), ih]
      by_cases hm : x ∈ l
      · rw [if_pos hm, if_pos (by simp [hm])]
        simp only [pos]
        rw [if_neg e]
        congr 1
        omega
      · rw [if_neg hm, if_neg (by simp [hm, Ne.symm e])]
theorem mpOf_look (l : List (List Int)) (x : List Int) : mlook (mpOf l) (.arr x) = if x ∈ l then some (pos l x : Int) else none := by
  unfold mpOf; rw [mpFrom_look]; simp
theorem mpOf_put {l : List (List Int)} {x : List Int} (h : x ∉ l) : mput (mpOf l) (.arr x) (l.length : Int) = mpOf (l ++ [x]) := by
  unfold mput
  rw [mpOf_look, if_neg h]
  simp [mpOf, mpFrom_app, mpFrom]
theorem nodup_sub {α : Type} [DecidableEq α] : ∀ (l R : List α), l.Nodup → (∀ x, x ∈ l → x ∈ R) → l.length ≤ R.length
  | [], _, _, _ => by simp
  | x :: l, R, h, hs => by
    have hx : x ∈ R := hs x (by simp)
    rw [List.nodup_cons] at h
    have h1 := nodup_sub l (R.erase x) h.2 fun y hy => by
      have hne : y ≠ x := fun e => h.1 (e ▸ hy)
      exact (List.mem_erase_of_ne hne).2 (hs y (by simp [hy]))
    have h2 : (R.erase x).length + 1 = R.length := by
      rw [List.length_erase, if_pos (by simpa using hx)]
      have : 0 < R.length := List.length_pos_of_mem hx
      omega
    simp only [List.length_cons]; omega

open Go Go.RowKit in
/-- An object of which nothing more is asked. -/
theorem awp_kill {C : Ctx} {Q : Exit → St → Prop} {s : St} {c : Code} (k : Nat) {ob : AO} (hk : s.L[k]? = some ob) (h : AWP C c Q { env := s.env, L := s.L.set k (.dead ob.ver) }) : AWP C c Q s := by
  intro σ a w hr
  have hlt : k < s.L.length := (List.getElem?_eq_some_iff.1 hk).1
  have hI := transfer (C := C) (L' := s.L.set k (.dead ob.ver)) (σ' := σ) (w' := w) k hr.inv (Nat.le_refl _) rfl rfl rfl (fun _ _ _ => rfl) (fun j hj => by rw [List.getElem?_set_ne (Ne.symm hj)]) (fun _ _ => rfl)
    (fun ob' e => by rw [hk] at e; cases e; exact ⟨.dead ob.ver, by simp [hlt], Nat.le_refl _, fun h => by cases h⟩)
    (fun b ⟨ob', e1, e2, _⟩ => by simp [hlt] at e1; subst e1; cases e2)
    (fun _ _ ob' e => by simp [hlt] at e; subst e; trivial)
  exact h σ a w ⟨hI.1, fun t => hI.2.rv (hr.env t), hr.size, hr.defers, hr.pres.trans hI.2⟩

open Go Go.RowKit in
/-- The last object is forgotten. -/
theorem awp_pop {C : Ctx} {Q : Exit → St → Prop} {s : St} {c : Code} {L1 : List AO} {ob : AO} (hL : s.L = L1 ++ [ob]) (hB : C.bL = []) (he : s.env.all (fun x => freeV L1.length x.2) = true) (ho : L1.all (freeO L1.length) = true)
    (h : AWP C c Q { env := s.env, L := L1 }) : AWP C c Q s := by
  refine awp_kill L1.length (ob := ob) (by rw [hL]; simp) ?_
  refine awp_drop (L1 := L1) (ver := ob.ver) (n := L1.length) ?_ rfl (by rw [hB]; exact Nat.zero_le _) he ho h
  show s.L.set L1.length _ = _
  rw [hL, List.set_append]
  simp

/-- Many rows of bools, one behind the other. -/
def gRows (e : Go.TypeId) (f : Nat → List Bool) (n : Nat) : List AO := (List.range n).map fun s => .row .bool e 0 (f s)
/-- .. and the row that leads to them. -/
def gcs (n : Nat) : List AC := (List.range n).map fun s => .row (s + 1 + 1 + 1 + 1) 0
theorem rep_one (c : AC) : ∀ n, rep [c] n = List.replicate n c
  | 0 => rfl
  | n + 1 => by simp [rep, rep_one c n, List.replicate_succ]
section
variable {e : Go.TypeId} {f : Nat → List Bool} {n i : Nat} {X : List AO} {x : AO}
theorem gRows_len : (gRows e f n).length = n := by simp [gRows]
theorem gcs_len : (gcs n).length = n := by simp [gcs]
theorem gRows_succ : gRows e f (n + 1) = gRows e f n ++ [.row .bool e 0 (f n)] := by simp [gRows, List.range_succ]
theorem gcs_get (h : i < n) : (gcs n).getD i .junk = .row (i + 1 + 1 + 1 + 1) 0 := by simp [gcs, List.getD, h]
theorem gRows_get (h : i < n) : (gRows e f n ++ X)[i]? = some (.row .bool e 0 (f i)) := by
  rw [List.getElem?_append_left (by rw [gRows_len]; exact h)]; simp [gRows, h]
theorem gRows_get' (h : i < n) : (gRows e f n)[i]? = some (.row .bool e 0 (f i)) := by simp [gRows, h]
theorem gRows_nth : (gRows e f n ++ X)[n]? = X[0]? := by rw [List.getElem?_append_right (by rw [gRows_len]; exact Nat.le_refl _), gRows_len, Nat.sub_self]
theorem gRows_nth1 : (gRows e f n ++ X)[n + 1]? = X[1]? := by rw [List.getElem?_append_right (by rw [gRows_len]; omega), gRows_len]; congr 1; omega
theorem gRows_nth2 : (gRows e f n ++ X)[n + 1 + 1]? = X[2]? := by rw [List.getElem?_append_right (by rw [gRows_len]; omega), gRows_len]; congr 1; omega
theorem gRows_setn : (gRows e f n ++ X).set n x = gRows e f n ++ X.set 0 x := by rw [List.set_append, gRows_len]; simp
theorem gRows_setn1 : (gRows e f n ++ X).set (n + 1) x = gRows e f n ++ X.set 1 x := by rw [List.set_append, gRows_len, if_neg (by omega), show n + 1 - n = 1 by omega]
theorem gRows_setn2 : (gRows e f n ++ X).set (n + 1 + 1) x = gRows e f n ++ X.set 2 x := by rw [List.set_append, gRows_len, if_neg (by omega), show n + 1 + 1 - n = 2 by omega]
theorem gRows_seti' {g : Nat → List Bool} {ys : List Bool} (h : i < n) (h1 : g i = ys) (h2 : ∀ j, j < n → j ≠ i → g j = f j) : (gRows e f n).set i (.row .bool e 0 ys) = gRows e g n := by
  unfold gRows
  apply List.ext_getElem?
  intro j
  rw [List.getElem?_set, List.getElem?_map, List.getElem?_map]
  by_cases e1 : i = j
  · subst e1; simp [h, h1]
  · rw [if_neg e1]
    by_cases hj : j < n
    · simp [hj, h2 j hj (Ne.symm e1)]
    · simp [List.getElem?_eq_none, hj]
theorem gRows_seti {g : Nat → List Bool} {ys : List Bool} (h : i < n) (h1 : g i = ys) (h2 : ∀ j, j < n → j ≠ i → g j = f j) : (gRows e f n ++ X).set i (.row .bool e 0 ys) = gRows e g n ++ X := by
  rw [List.set_append, if_pos (by rw [gRows_len]; exact h), gRows_seti' h h1 h2]
theorem gRows_free {N : Nat} : (gRows e f n).all (freeO N) = true := by simp [gRows, freeO]
theorem gcs_free {N : Nat} (h : n + 4 ≤ N) : (gcs n).all (freeC N) = true := by
  rw [List.all_eq_true]
  intro c hc
  simp only [gcs, List.mem_map, List.mem_range] at hc
  obtain ⟨j, hj, rfl⟩ := hc
  simp only [freeC, decide_eq_true_eq]; omega
end

open Go Go.RowKit in
/-- A place for an object that is to come. -/
theorem awp_hole {C : Ctx} {Q : Exit → St → Prop} {s : St} {c : Code} (h : AWP C c Q { env := s.env, L := s.L ++ [.dead 0] }) : AWP C c Q s := by
  intro σ a w hr
  have hd := done_new (C := C) (L := s.L) (σ := σ) (w := w) (w' := w) (v := .undef) (fp := []) (u := undef) (g := undef) (ob := .dead 0) hr.inv (Nat.le_refl _) rfl rfl rfl (fun _ _ => rfl) (fun b hb => by cases hb) (fun _ => trivial) trivial
  obtain ⟨σ', d1, _, d3⟩ := hd
  have happ : app s.L { av := .undef, new := [.dead 0], fp := [] } = s.L ++ [.dead 0] := rfl
  rw [happ] at d1 d3
  exact h σ' a w ⟨d1, fun t => d3.rv (hr.env t), hr.size, hr.defers, hr.pres.trans d3⟩

/-! ### other names for the objects change no order -/
def ren1 (f : Nat → Nat) (t : List Nat × List Nat × Nat) : List Nat × List Nat × Nat := (t.1.map f, t.2.1.map f, t.2.2)
section
variable {f : Nat → Nat} (hf : ∀ x y, f x = f y → x = y)
include hf
theorem disj_ren {a b : List Nat} (h : disj a b = true) : disj (a.map f) (b.map f) = true := by
  refine List.all_eq_true.2 fun x hx => ?_
  obtain ⟨u, hu, rfl⟩ := List.mem_map.1 hx
  have := disj_spec h hu
  simp only [Bool.not_eq_true', List.contains_eq_mem, decide_eq_false_iff_not]
  intro hm
  obtain ⟨v, hv, e⟩ := List.mem_map.1 hm
  exact this (hf v u e ▸ hv)
theorem indep_ren {ops : List Go.Oper} {oi oj : Go.Oper} {ti tj : List Nat × List Nat × Nat} (h : indep ops oi oj ti tj = true) : indep ops oi oj (ren1 f ti) (ren1 f tj) = true := by
  simp only [indep, Bool.and_eq_true, ren1] at *
  obtain ⟨⟨⟨⟨⟨h1, h2⟩, h3⟩, h4⟩, h5⟩, h6⟩ := h
  exact ⟨⟨⟨⟨⟨h1, h2⟩, h3⟩, disj_ren hf h4⟩, disj_ren hf h5⟩, disj_ren hf h6⟩
theorem ordRow_ren {ops : List Go.Oper} {mask : Nat} {oj : Go.Oper} {tj : List Nat × List Nat × Nat} : ∀ {i : Nat} {os : List Go.Oper} {ts : Tr}, ordRow ops mask oj tj i os ts = true → ordRow ops mask oj (ren1 f tj) i os (ts.map (ren1 f)) = true
  | _, [], _, _ => rfl
  | i, oi :: os, t :: ts, h => by
    simp only [ordRow, List.map_cons, Bool.and_eq_true, Bool.or_eq_true] at *
    refine ⟨?_, ordRow_ren h.2⟩
    rcases h.1 with h1 | h1
    · exact .inl h1
    · exact .inr (indep_ren hf h1)
  | _, _ :: _, [], h => by cases h
theorem ordAll_ren {ops : List Go.Oper} {tr : Tr} {masks : List Nat} : ∀ {j : Nat} {os : List Go.Oper} {ts : Tr}, ordAll ops tr masks j os ts = true → ordAll ops (tr.map (ren1 f)) masks j os (ts.map (ren1 f)) = true
  | _, [], [], _ => rfl
  | j, o :: os, t :: ts, h => by
    simp only [ordAll, List.map_cons, Bool.and_eq_true] at *
    refine ⟨⟨h.1.1, ?_⟩, ordAll_ren h.2⟩
    rw [← List.map_take]
    exact ordRow_ren hf h.1.2
  | _, [], _ :: _, h => by cases h
  | _, _ :: _, [], h => by cases h
theorem ordOk_ren {ops : List Go.Oper} (tr : Tr) (h : ordOk ops tr = true) : ordOk ops (tr.map (ren1 f)) = true := ordAll_ren hf h
end
/-- Codes below four stand for themselves, others for numbers behind n. -/
def cdf (n k : Nat) : Nat := if k < 4 then k else n + k
theorem cdf_inj (n : Nat) : ∀ x y, cdf n x = cdf n y → x = y := by
  intro x y h
  unfold cdf at h
  split at h <;> split at h <;> omega

end Go.AV
