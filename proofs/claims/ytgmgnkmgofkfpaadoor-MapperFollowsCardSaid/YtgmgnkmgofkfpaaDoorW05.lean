/- Contracts of functions of this seat, each out of a walk through its code, and plain facts on what they compute. Conditions: those that each theorem names. -/
import Derived.Test.YtgmgnkmgofkfpaaDoorW04
set_option linter.unusedSimpArgs false
set_option linter.unusedVariables false
namespace Go.AV
open Nat renaming reduceEqDiff → J, reduceAdd → E, reduceLeDiff → U, reduceLT → Z, reduceMul → V, reduceSub → Y
open List renaming set_cons_zero → aw, set_cons_succ → au
/-plain-/
/-! On drmTh: the reference's Min is the program's. -/
def hM (d : Dfa) (p : PP) : PP := (d.rep p.1, 0)
/-! Two minimal automata. -/
end Go.AV
namespace Go.AV
open Nat renaming reduceEqDiff → J, reduceAdd → E, reduceLeDiff → U, reduceLT → Z, reduceMul → V, reduceSub → Y
open List renaming set_cons_zero → aw, set_cons_succ → au
/-plain-/
/-! Runs of composed machines. -/
theorem oz {m : Mly} (hm : MOK m) : ∀ (w : List Int) (s : Int), 0 ≤ s ∧ s < m.nx.length → (∀ i : Nat, i < w.length → 0 ≤ w.getD i 0 ∧ w.getD i 0 < m.inp) → (0 ≤ (m.go s w).1 ∧ (m.go s w).1 < m.nx.length) ∧ ∀ o, o ∈ (m.go s w).2 → 0 ≤ o ∧ o ≤ gr m
  | [], s, hs, _ => ⟨hs, fun o h => by simp [o0] at h⟩
  | a :: w, s, hs, hw => by
    obtain ⟨h1, h2⟩ := nk hw
    have hn := pF hm hs h1
    have ho := rK hm hs h1
    obtain ⟨r1, r2⟩ := oz hm w _ hn h2
    rw [jm]
    refine ⟨r1, fun o h => ?_⟩
    rcases List.mem_cons.1 h with e | h
    · rw [e]; exact ho
    · exact r2 o h
structure PRL (a b M : Mly) (w : List Int) : Prop where
  v : bU M = 0
  st : M.st = 0
  re : M.reach.length = M.nx.length
  ea : eF a a.st w = cd w a.inp
  eb : eF b b.st w = cd w a.inp
  em : eF M M.st w = cd w a.inp
  la : (d4 a a.st w).length = (d4 M M.st w).length
  lb : (d4 b b.st w).length = (d4 M M.st w).length
  at_ : ∀ i, i < (d4 M M.st w).length → (d4 M M.st w).getD i 0 = (d4 a a.st w).getD i 0 * (1 + gr b) + (d4 b b.st w).getD i 0
structure CAL (a b M : Mly) (w : List Int) : Prop where
  v : bU M = 0
  ea : eF a a.st w = cd w a.inp
  em : eF M M.st w = cd w a.inp
  eb : cd w a.inp = 0 → eF b b.st (d4 a a.st w) = 0
  vb : cd w a.inp = 0 → d4 b b.st (d4 a a.st w) = d4 M M.st w
/-! Parallel. -/
def plU (n : Int) (w : List Int) : List Int := w.filter fun x => decide (x < n)
def plV (n : Int) (w : List Int) : List Int := (w.filter fun x => !decide (x < n)).map fun x => x - n
def plA (n : Int) (e : List (Int × Int)) : List Int := (e.filter fun x => decide (x.1 < n)).map (·.2)
def plB (n k : Int) (e : List (Int × Int)) : List Int := (e.filter fun x => !decide (x.1 < n)).map fun x => x.2 - 1 - k
structure PLL (a b M : Mly) (w : List Int) : Prop where
  v : bU M = 0
  inp : M.inp = a.inp + b.inp
  em : eF M M.st w = cd w (a.inp + b.inp)
  lm : cd w (a.inp + b.inp) = 0 → (d4 M M.st w).length = w.length
  ea : cd w (a.inp + b.inp) = 0 → eF a a.st (plU a.inp w) = 0
  eb : cd w (a.inp + b.inp) = 0 → eF b b.st (plV a.inp w) = 0
  va : cd w (a.inp + b.inp) = 0 → d4 a a.st (plU a.inp w) = plA a.inp (w.zip (d4 M M.st w))
  vb : cd w (a.inp + b.inp) = 0 → d4 b b.st (plV a.inp w) = plB a.inp (gr a) (w.zip (d4 M M.st w))
/-! Restrict and Map. -/
end Go.AV
namespace Go.AV
open Nat renaming reduceEqDiff → J, reduceAdd → E, reduceLeDiff → U, reduceLT → Z, reduceMul → V, reduceSub → Y
open List renaming set_cons_zero → aw, set_cons_succ → au
/-plain-/
/-! On dmeqTh, dfmTh. -/
end Go.AV
namespace Go.AV
open Nat renaming reduceEqDiff → J, reduceAdd → E, reduceLeDiff → U, reduceLT → Z, reduceMul → V, reduceSub → Y
open List renaming set_cons_zero → aw, set_cons_succ → au
/-plain-/
/-! On dmeqTh, dfmTh, dselfTh. -/
theorem kq {n : Int} {w : List Int} (h : cd w n = 0) : gf n w := px (gY h).sym
/-! Combinations. -/
/-! Differences. -/
/-! Counting. -/
def cV (d : Dfa) (k : Nat) : Int := (o7 d k).getD d.st.toNat 0
structure CNT (d : Dfa) (k : Nat) : Prop where
  e1 : cuE d k = 0
  e2 : cuE (coD d) k = 0
  v1 : cuV d k = cV d k
  x0 : 0 ≤ cuV d k
  y0 : 0 ≤ cuV (coD d) k
  sm : cuV d k + cuV (coD d) k = d.inp ^ k
  pb : d.inp ^ k ≤ 205891132094649
  pp : 1 ≤ d.inp ^ k
def pN (d : Dfa) (k : Nat) : Int := match (List.range k).find? (fun j => decide (0 < cV d j)) with | some j => (j : Int) | none => -1
/-- The shortest accepted word. -/
structure SHO (d : Dfa) (k : Nat) : Prop where
  yes : 0 ≤ pN d k → qu d = true ∧ ((o9 d).length : Int) = pN d k
  no : qu d = false → pN d k < 0 ∧ o9 d = []
  ac : qu d = true → acV d (o9 d) = true ∧ acE d (o9 d) = 0
/-! There and back. -/
structure TOM (d : Dfa) (M : Mly) : Prop where
  e : toE d = 0
  eq : M = ⟨d.inp, d.st, d.nx, d.om⟩
  ok : MOK M
structure TRP (d : Dfa) (acc : Bool) : Prop where
  fe : fmE (toM d) acc = 0
  tw : si (fmD (toM d) acc) d = 0
  nd : sQ (fmD (toM d) acc) d = false
end Go.AV
namespace Go.AV
open Nat renaming reduceEqDiff → J, reduceAdd → E, reduceLeDiff → U, reduceLT → Z, reduceMul → V, reduceSub → Y
open List renaming set_cons_zero → aw, set_cons_succ → au
/-plain-/
/-! The laws of mappers. On pmdTh, pcoTh, dlawTh. -/
theorem rj {p : Mpr} {w : List Int} (h : abE p w = 0) : POK p ∧ cd w p.inp = 0 ∧ abV p w = p.im p.st w := by
  have hv : bY p = 0 := by
    unfold abE at h; split at h
    · omega
    · omega
  have hw : cd w p.inp = 0 := by
    unfold abE at h; rw [if_neg (fun k => k hv)] at h; exact h
  exact ⟨i3 hv, hw, (lr hv hw).2⟩
theorem nT {p : Mpr} (hp : POK p) : ∀ (w : List Int) {s : Int}, (0 ≤ s ∧ s < p.nx.length) → gf p.inp w → gf p.ab (p.im s w)
  | [], _, _, _ => fun x hx => by cases hx
  | c :: w, s, hs, hw => by
    obtain ⟨h1, h2⟩ := gB.1 hw
    exact gB.2 ⟨hp.sx hs h1, nT hp w (hp.tx hs h1) h2⟩
/-! Models. -/
theorem jl {m : Mly} {p : Mpr} : ∀ (f i : Nat), RIM m p i → (∃ j, RIM m p j ∧ goM m p f i = dL p (bv m p j) ∧ (f + i = j ∨ ¬ j < (bv m p j).S.length)) ∨ ∃ j a r, RIM m p j ∧ j < (bv m p j).S.length ∧ a < p.ab.toNat ∧ (∀ b, b < a → cr m p j (bM m p j b) b = none) ∧ cr m p j (bM m p j a) a = some r ∧ goM m p f i = r
  | 0, i, h => .inl ⟨i, h, rfl, .inl (by omega)⟩
  | f + 1, i, h => by
    by_cases h1 : i < (bv m p i).S.length
    · cases h2 : (List.range p.ab.toNat).findSome? (fun a => cr m p i (bM m p i a) a) with
      | none =>
        have h3 : ∀ b, b < p.ab.toNat → cr m p i (bM m p i b) b = none := fun b hb => (List.findSome?_eq_none_iff.1 h2) b (List.mem_range.2 hb)
        have e : goM m p (f + 1) i = goM m p f (i + 1) := by
          show (if _ then _ else _) = _
          rw [if_pos h1, h2]
        rw [e]
        rcases jl f (i + 1) (iG h h1 h3) with ⟨j, g1, g2, g3⟩ | g
        · exact .inl ⟨j, g1, g2, g3.imp (fun q => by omega) id⟩
        · exact .inr g
      | some r =>
        have e : goM m p (f + 1) i = r := by
          show (if _ then _ else _) = _
          rw [if_pos h1, h2]
        refine .inr ?_
        -- the first column that fails
        have hx : ∃ a, a < p.ab.toNat ∧ (∀ b, b < a → cr m p i (bM m p i b) b = none) ∧ cr m p i (bM m p i a) a = some r := by
          clear e
          generalize p.ab.toNat = n at h2
          induction n with
          | zero => simp at h2
          | succ n ih =>
            rw [List.range_succ, List.findSome?_append] at h2
            cases h4 : (List.range n).findSome? (fun a => cr m p i (bM m p i a) a) with
            | some r2 =>
              rw [h4] at h2
              have h5 : some r2 = some r := h2
              obtain ⟨a, q1, q2, q3⟩ := ih (by rw [h4, h5])
              exact ⟨a, by omega, q2, q3⟩
            | none =>
              rw [h4] at h2
              refine ⟨n, by omega, fun b hb => (List.findSome?_eq_none_iff.1 h4) b (List.mem_range.2 hb), ?_⟩
              simpa using h2
        obtain ⟨a, q1, q2, q3⟩ := hx
        exact ⟨i, a, r, h, h1, q1, q2, q3, e⟩
    · exact .inl ⟨i, h, by show (if _ then _ else _) = _; rw [if_neg h1], .inr h1⟩
theorem qL {m : Mly} {p : Mpr} (h : ef m p = 0) : MOK m ∧ POK p ∧ m.inp = p.inp := by
  unfold ef at h
  split at h
  · omega
  · split at h
    · omega
    · split at h
      · omega
      · exact ⟨o6 (by omega), i3 (by omega), by omega⟩
/-- A model, a clash or an error. -/
theorem jX (m : Mly) (p : Mpr) : (∃ e, ¬ e = 0 ∧ mdl m p = fJ e) ∨ (MOK m ∧ POK p ∧ m.inp = p.inp ∧ ((∃ i, RIM m p i ∧ (bv m p i).S.length = i ∧ 0 < i ∧ mdl m p = dL p (bv m p i)) ∨
    ∃ i a, RIM m p i ∧ i < (bv m p i).S.length ∧ a < p.ab.toNat ∧ 1 < (aO m p (cxM (bM m p i a) i) a).length ∧ mdl m p = ⟨iu, cwM (bM m p i a) i a, (aO m p (cxM (bM m p i a) i) a).getD 0 0, (aO m p (cxM (bM m p i a) i) a).getD 1 0, false, 0⟩)) := by
  by_cases h : ef m p = 0
  · obtain ⟨hm, hp, hi⟩ := qL h
    have e : mdl m p = goM m p 129 0 := if_pos h
    rcases jl (m := m) (p := p) 129 0 (fun j hj => by omega) with ⟨j, g1, g2, g3⟩ | ⟨j, a, r, g1, g2, g3, g4, g5, g6⟩
    · refine .inr ⟨hm, hp, hi, .inl ⟨j, g1, ?_, ?_, by rw [e, g2]⟩⟩
      · have h1 := g8 hm hp hi g1
        have h2 : ¬ j < (bv m p j).S.length := by
          rcases g3 with g3 | g3
          · omega
          · exact g3
        match j, g1, h2 with
        | 0, _, h2 => exact absurd (show 0 < 1 by omega) h2
        | j + 1, g1, h2 =>
          have h3 := (g1 j (by omega)).1
          have h4 := eN (m := m) (p := p) (i := j) p.ab.toNat
          have h5 : (bv m p (j + 1)).S = (bM m p j p.ab.toNat).S := rfl
          rw [h5] at h2 ⊢
          omega
      · match j, g3 with
        | 0, g3 => rcases g3 with g3 | g3
                   · omega
                   · exact absurd (show 0 < 1 by omega) g3
        | j + 1, _ => omega
    · unfold cr at g5
      split at g5
      · rename_i h1
        exact .inr ⟨hm, hp, hi, .inr ⟨j, a, g1, g2, g3, h1, by rw [e, g6]; exact (Option.some.inj g5).symm⟩⟩
      · split at g5
        · exact .inl ⟨2, by omega, by rw [e, g6]; exact (Option.some.inj g5).symm⟩
        · split at g5
          · exact .inl ⟨11, by omega, by rw [e, g6]; exact (Option.some.inj g5).symm⟩
          · cases g5
  · exact .inl ⟨ef m p, h, if_neg h⟩
/-! The words. -/
theorem sI {m : Mly} {p : Mpr} (hm : MOK m) (hp : POK p) (hi : m.inp = p.inp) {xs : List Int} (h : SB m p xs) (a : Int) : ∀ y ∈ oA m p xs a, 0 ≤ y := fun y hy => by
  unfold oA at hy
  obtain ⟨x, hx, hy⟩ := List.mem_flatMap.1 hy
  unfold oK1 at hy
  split at hy
  · rw [List.mem_singleton] at hy; omega
  · unfold oK at hy
    obtain ⟨c, hc, rfl⟩ := List.mem_map.1 hy
    unfold cK at hc
    have hc2 := List.mem_range.1 (List.mem_filter.1 hc).1
    have := (jh hm hp hi (h.rng x hx) (c := c) (by omega)).1.2
    have := (hm.or _ c this (by omega)).1
    unfold oC; omega
end Go.AV
namespace Go.AV
open Nat renaming reduceEqDiff → J, reduceAdd → E, reduceLeDiff → U, reduceLT → Z, reduceMul → V, reduceSub → Y
open List renaming set_cons_zero → aw, set_cons_succ → au
/-plain-/
/-! A model follows. On m37Th. -/
theorem p4 {m : Mly} {A D : Int} (hn : 1 ≤ m.nx.length) (hA : 0 ≤ A) (hD : 0 ≤ D ∧ D < m.nx.length) : qxN m (A * (m.nx.length : Int) + D) = A.toNat ∧ sxN m (A * (m.nx.length : Int) + D) = D.toNat := by
  unfold qxN sxN
  obtain ⟨A', rfl⟩ := Int.eq_ofNat_of_zero_le hA
  obtain ⟨D', rfl⟩ := Int.eq_ofNat_of_zero_le hD.1
  have e2 : ((A' : Int) * (m.nx.length : Int) + (D' : Int)).toNat = m.nx.length * A' + D' := by
    have : ((A' : Int) * (m.nx.length : Int) + (D' : Int)) = ((m.nx.length * A' + D' : Nat) : Int) := by push_cast; rw [Int.mul_comm]
    rw [this]; rfl
  have hD' : D' < m.nx.length := by omega
  rw [e2]
  constructor
  · rw [Nat.mul_add_div (by omega), Nat.div_eq_of_lt hD']; simp
  · rw [Nat.mul_add_mod, Nat.mod_eq_of_lt hD']; simp
theorem kz : ∀ {S : List SS} {x : List Int}, cD S x < S.length → (S.getD (cD S x) ss0).1 = x
  | [], _, h => by simp [cD] at h
  | s :: S, x, h => by
    by_cases e : s.1 = x
    · have p1 : cD (s :: S) x = 0 := if_pos e
      rw [p1]; exact e
    · have p1 : cD (s :: S) x = cD S x + 1 := if_neg e
      rw [p1] at h ⊢
      have := kz (S := S) (x := x) (by simpa using h)
      exact this
theorem rW {S : List SS} {x w : List Int} (h : sgB S x = true) : 0 ≤ sgK S x ∧ sgK S x < (sgS S x w).length ∧ ((sgS S x w).getD (sgK S x).toNat ss0).1 = x := by
  by_cases hps : cD S x < S.length
  · obtain ⟨e1, _, e3⟩ := eX (w := w) hps
    rw [e1, e3]
    exact ⟨by omega, by omega, by rw [Int.toNat_natCast]; exact kz hps⟩
  · have hfl : ¬ S.length = 128 := by unfold sgB at h; rw [decide_eq_true_eq] at h; omega
    obtain ⟨e1, _, e3⟩ := eY (w := w) hps hfl
    rw [e1, e3]
    refine ⟨by omega, by rw [List.length_append]; simp only [List.length_cons, List.length_nil]; omega, ?_⟩
    rw [Int.toNat_natCast]
    simp [List.getD]
theorem mW {m : Mly} {p : Mpr} {i a : Nat} {t : MS} (h : cr m p i t a = none) : (aO m p (cxM t i) a).length ≤ 1 ∧ (aO m p (cxM t i) a).getD 0 0 ≤ 1048576 ∧ sgB t.S (aN m p (cxM t i) a) = true := by
  unfold cr at h
  split at h
  · cases h
  · split at h
    · cases h
    · split at h
      · cases h
      · rename_i h1 h2 h3
        refine ⟨by omega, by omega, ?_⟩
        cases hb : sgB t.S (aN m p (cxM t i) a) with
        | true => rfl
        | false => exact absurd hb h3
theorem f9 {α : Type} {l : List α} {x d : α} {k : Nat} (h : k ≤ l.length) : (l ++ [x]).getD k d = if k < l.length then l.getD k d else x := by
  by_cases e : k < l.length
  · rw [if_pos e]; simp [List.getD, List.getElem?_append_left e]
  · have : k = l.length := by omega
    rw [if_neg e, this]; simp [List.getD]
/-- What a place of the table tells: x is the set, T the next one's number, o the output. -/
structure CEL (m : Mly) (p : Mpr) (S : List SS) (x : List Int) (a : Nat) (T o : Int) : Prop where
  t0 : 0 ≤ T
  t1 : T < S.length
  nx : (S.getD T.toNat ss0).1 = aN m p x a
  ou : o = (aO m p x a).getD 0 0
  l1 : (aO m p x a).length ≤ 1
  o1 : o ≤ 1048576
theorem CEL.grow {m : Mly} {p : Mpr} {S : List SS} {x : List Int} {a : Nat} {T o : Int} (h : CEL m p S x a T o) (y w : List Int) : CEL m p (sgS S y w) x a T o := by
  have h1 := h.t0; have h2 := h.t1; have h3 := o3 S y w
  exact ⟨h.t0, by omega, (by rw [l8 (by omega)]; exact h.nx), h.ou, h.l1, h.o1⟩
theorem m6 {m : Mly} {p : Mpr} {x : List Int} {b : Nat} {T o : Int} {i : Nat} (h : CEL m p (bv m p i).S x b T o) : ∀ a, CEL m p (bM m p i a).S x b T o
  | 0 => h
  | a + 1 => by rw [di]; exact (m6 h a).grow _ _
theorem hO {m : Mly} {p : Mpr} {i j : Nat} (h : j < (bv m p i).S.length) : ∀ a, (bM m p i a).S.getD j ss0 = (bv m p i).S.getD j ss0
  | 0 => rfl
  | a + 1 => by
    rw [di]
    have := eN (m := m) (p := p) (i := i) a
    exact (l8 (by omega)).trans (hO h a)
/-- The row under way. -/
theorem mN {m : Mly} {p : Mpr} {i : Nat} (hl : i < (bv m p i).S.length) : ∀ a, (∀ b, b < a → cr m p i (bM m p i b) b = none) → ∀ b, b < a → CEL m p (bM m p i a).S ((bv m p i).S.getD i ss0).1 b ((bM m p i a).nr.getD b 0) ((bM m p i a).os.getD b 0)
  | 0, _, b, hb => by omega
  | a + 1, h, b, hb => by
    have ih := mN hl a fun c hc => h c (by omega)
    obtain ⟨_, _, h3, h4⟩ := eJ (m := m) (p := p) (i := i) a
    have hn := dt m p i
    rw [hn.1] at h3; rw [hn.2.1] at h4
    simp only [List.length_nil, Nat.zero_add] at h3 h4
    rw [di]
    show CEL m p (sgS _ _ _) _ b ((_ ++ [_]).getD b 0) ((_ ++ [_]).getD b 0)
    rw [f9 (by omega), f9 (by omega)]
    by_cases e : b < a
    · rw [if_pos (by omega), if_pos (by omega)]
      exact (ih b e).grow _ _
    · have e2 : b = a := by omega
      subst e2
      rw [if_neg (by omega), if_neg (by omega)]
      obtain ⟨f1, f2, f3⟩ := mW (h b (by omega))
      have hc : cxM (bM m p i b) i = ((bv m p i).S.getD i ss0).1 := by unfold cxM; rw [hO hl b]
      have hk := rW (w := cwM (bM m p i b) i b) f3
      rw [hc] at f1 f2 f3 hk ⊢
      exact ⟨hk.1, hk.2.1, hk.2.2, rfl, f1, f2⟩
/-- The rows that are done. -/
theorem gD {m : Mly} {p : Mpr} : ∀ {i : Nat}, RIM m p i → i ≤ (bv m p i).S.length ∧ ∀ t, t < i → (((bv m p i).N.getD t []).length = p.ab.toNat ∧ ((bv m p i).O.getD t []).length = p.ab.toNat) ∧ ∀ b, b < p.ab.toNat → CEL m p (bv m p i).S ((bv m p i).S.getD t ss0).1 b (((bv m p i).N.getD t []).getD b 0) (((bv m p i).O.getD t []).getD b 0)
  | 0, _ => ⟨Nat.zero_le _, fun t ht => by omega⟩
  | i + 1, h => by
    obtain ⟨hl, hF⟩ := h i (by omega)
    obtain ⟨i1, i2⟩ := gD (i := i) fun j hj => h j (by omega)
    have hge := eN (m := m) (p := p) (i := i) p.ab.toNat
    obtain ⟨h1, h2, h3, h4⟩ := eJ (m := m) (p := p) (i := i) p.ab.toNat
    have hn := dt m p i
    rw [hn.1] at h3; rw [hn.2.1] at h4
    simp only [List.length_nil, Nat.zero_add] at h3 h4
    rw [fl]
    refine ⟨by show _ ≤ (bM m p i p.ab.toNat).S.length; omega, fun t ht => ?_⟩
    show (((_ ++ [_]).getD t []).length = _ ∧ ((_ ++ [_]).getD t []).length = _) ∧ ∀ b, b < p.ab.toNat → CEL m p (bM m p i p.ab.toNat).S (((bM m p i p.ab.toNat).S).getD t ss0).1 b (((_ ++ [_]).getD t []).getD b 0) (((_ ++ [_]).getD t []).getD b 0)
    rw [h1, h2, f9 (by rw [hn.2.2.1]; omega), f9 (by rw [hn.2.2.2]; omega), hn.2.2.1, hn.2.2.2, hO (by omega)]
    by_cases e : t < i
    · rw [if_pos e, if_pos e]
      obtain ⟨j1, j2⟩ := i2 t e
      exact ⟨j1, fun b hb => m6 (j2 b hb) _⟩
    · have e2 : t = i := by omega
      subst e2
      rw [if_neg (by omega), if_neg (by omega)]
      exact ⟨⟨h3, h4⟩, fun b hb => mN hl _ hF b hb⟩
theorem nt {m : Mly} {p : Mpr} (h : (mdl m p).e = 0 ∧ (mdl m p).f = true) : ∃ i, MOK m ∧ POK p ∧ m.inp = p.inp ∧ RIM m p i ∧ (bv m p i).S.length = i ∧ 0 < i ∧ mdl m p = dL p (bv m p i) := by
  rcases jX m p with ⟨e, h1, h2⟩ | ⟨hm, hp, hi, ⟨i, g1, g2, g3, g4⟩ | ⟨i, a, g1, g2, g3, g4, h2⟩⟩
  · rw [h2] at h; exact absurd h.1 h1
  · exact ⟨i, hm, hp, hi, g1, g2, g3, g4⟩
  · rw [h2] at h; exact absurd h.2 (by simp)
theorem pg {m : Mly} {p : Mpr} (h : ¬ (mdl m p).e = 0 ∨ (mdl m p).f = false) : (mdl m p).my.nx = [] := by
  rcases jX m p with ⟨e, h1, h2⟩ | ⟨hm, hp, hi, ⟨i, _, _, _, h2⟩ | ⟨i, a, g1, g2, g3, g4, h2⟩⟩
  · rw [h2]; rfl
  · rw [h2] at h; simp [dL] at h
  · rw [h2]; rfl
theorem sL {m : Mly} {p : Mpr} (hm : MOK m) (hp : POK p) (hi : m.inp = p.inp) {xs : List Int} (h : SB m p xs) (a : Int) : 0 ≤ (aO m p xs a).getD 0 0 :=
  qh (sI hm hp hi h a) _ (da (oB hp h.pos a))
/-- The model is a machine. -/
theorem qR {m : Mly} {p : Mpr} {i : Nat} (hm : MOK m) (hp : POK p) (hi : m.inp = p.inp) (hR : RIM m p i) (hl : (bv m p i).S.length = i) (h0 : 0 < i) : MOK (dL p (bv m p i)).my := by
  obtain ⟨_, hc⟩ := gD hR
  have hS := eQ hm hp hi hR
  have hn := dt m p i
  have a1 := hp.b1; have a2 := hp.b2; have hle := hS.le
  have e1 : (dL p (bv m p i)).my = ⟨p.ab, 0, (bv m p i).N, (bv m p i).O⟩ := rfl
  rw [e1]
  refine ⟨a1, a2, ?_, ?_, Int.le_refl _, ?_, ?_, ?_, ?_, ?_, ?_⟩
  · show 1 ≤ (bv m p i).N.length; omega
  · show (bv m p i).N.length ≤ 128; omega
  · show (0 : Int) < ((bv m p i).N.length : Int); omega
  · show (bv m p i).O.length = (bv m p i).N.length; omega
  · intro s hs
    have := ((hc s (by show s < i; have : s < (bv m p i).N.length := hs; omega)).1).1
    show (((bv m p i).N.getD s []).length : Int) = p.ab; omega
  · intro s hs
    have := ((hc s (by show s < i; have : s < (bv m p i).N.length := hs; omega)).1).2
    show (((bv m p i).O.getD s []).length : Int) = p.ab; omega
  · intro s a hs ha
    have hs2 : s < (bv m p i).N.length := hs
    have ha2 : (a : Int) < p.ab := ha
    have := (hc s (by omega)).2 a (by omega)
    have h1 := this.t0; have h2 := this.t1
    show 0 ≤ ((bv m p i).N.getD s []).getD a 0 ∧ ((bv m p i).N.getD s []).getD a 0 < ((bv m p i).N.length : Int)
    omega
  · intro s a hs ha
    have hs2 : s < (bv m p i).N.length := hs
    have ha2 : (a : Int) < p.ab := ha
    have hq := (hc s (by omega)).2 a (by omega)
    have h1 := hq.ou; have h2 := hq.o1
    have h3 := sL hm hp hi (hS.at_ (i := s) (by omega)).1 (a : Int)
    show 0 ≤ ((bv m p i).O.getD s []).getD a 0 ∧ ((bv m p i).O.getD s []).getD a 0 ≤ 1048576
    omega
theorem rL {l : List Int} {x : Int} (h : l.length ≤ 1) (hx : x ∈ l) : l.getD 0 0 = x := by
  match l, h, hx with
  | [y], _, hx => rw [List.mem_singleton] at hx; rw [hx]; rfl
theorem rT {p : Mpr} {q : Nat} {a : Int} {c : Nat} (hc : c < p.inp.toNat) (h : (p.sy.getD q []).getD c 0 = a) : c ∈ cK p q a p.inp.toNat := by
  unfold cK
  rw [List.mem_filter]
  exact ⟨List.mem_range.2 hc, by simpa [o8] using h⟩
theorem oh {m : Mly} {p : Mpr} {i : Nat} (hm : MOK m) (hp : POK p) (hi : m.inp = p.inp) (hR : RIM m p i) (hl : (bv m p i).S.length = i) : ∀ (w : List Int) (q s t : Int), (0 ≤ q ∧ q < p.nx.length) → (0 ≤ s ∧ s < m.nx.length) → (0 ≤ t ∧ t < i) → gf p.inp w → q * (m.nx.length : Int) + s ∈ ((bv m p i).S.getD t.toNat ss0).1 →
    ((dL p (bv m p i)).my.go t (p.im q w)).2 = (m.go s w).2.map (1 + ·)
  | [], _, _, _, _, _, _, _, _ => rfl
  | c :: w, q, s, t, hq, hs, ht, hw, hx => by
    obtain ⟨hc, hw2⟩ := gB.1 hw
    obtain ⟨_, hcel⟩ := gD hR
    have hS := eQ hm hp hi hR
    have hn := hm.n1
    have ha := hp.sx hq hc
    have hcl := (hcel t.toNat (by omega)).2 (p.sx q c).toNat (by omega)
    have hsb := (hS.at_ (i := t.toNat) (by omega)).1
    obtain ⟨e1, e2⟩ := p4 hn hq.1 hs
    have eA : (((p.sx q c).toNat : Nat) : Int) = p.sx q c := by omega
    have hmem : c.toNat ∈ cK p (qxN m (q * (m.nx.length : Int) + s)) (((p.sx q c).toNat : Nat) : Int) p.inp.toNat := rT (by omega) (by rw [e1, eA]; rfl)
    have hne : ¬ cK p (qxN m (q * (m.nx.length : Int) + s)) (((p.sx q c).toNat : Nat) : Int) p.inp.toNat = [] := fun h => by rw [h] at hmem; cases hmem
    have ho : oC m (q * (m.nx.length : Int) + s) c.toNat ∈ aO m p ((bv m p i).S.getD t.toNat ss0).1 (((p.sx q c).toNat : Nat) : Int) := by
      unfold aO
      rw [(cS _).2]
      unfold oA
      refine List.mem_flatMap.2 ⟨_, hx, ?_⟩
      unfold oK1
      rw [if_neg hne]
      exact List.mem_map.2 ⟨_, hmem, rfl⟩
    have hnA : nC m p (q * (m.nx.length : Int) + s) c.toNat ∈ nA m p ((bv m p i).S.getD t.toNat ss0).1 (((p.sx q c).toNat : Nat) : Int) := by
      unfold nA
      refine List.mem_flatMap.2 ⟨_, hx, ?_⟩
      exact List.mem_map.2 ⟨_, hmem, rfl⟩
    have hnN : nC m p (q * (m.nx.length : Int) + s) c.toNat ∈ aN m p ((bv m p i).S.getD t.toNat ss0).1 (((p.sx q c).toNat : Nat) : Int) := by
      unfold aN
      rw [if_neg (fun h => by rw [h] at hnA; cases hnA), (cS _).2]
      exact hnA
    have eo : (dL p (bv m p i)).my.out t (p.sx q c) = 1 + m.out s c := by
      have h1 : (dL p (bv m p i)).my.out t (p.sx q c) = ((bv m p i).O.getD t.toNat []).getD (p.sx q c).toNat 0 := rfl
      rw [h1, hcl.ou, rL hcl.l1 ho]
      unfold oC
      rw [e2]; rfl
    have en : nC m p (q * (m.nx.length : Int) + s) c.toNat = p.tx q c * (m.nx.length : Int) + m.nxt s c := by
      unfold nC
      rw [e1, e2]; rfl
    have et : (dL p (bv m p i)).my.nxt t (p.sx q c) = ((bv m p i).N.getD t.toNat []).getD (p.sx q c).toNat 0 := rfl
    show ((dL p (bv m p i)).my.go t (p.sx q c :: p.im (p.tx q c) w)).2 = _
    rw [jm, jm, List.map_cons, eo]
    have hT0 := hcl.t0; have hT1 := hcl.t1
    have ih := oh hm hp hi hR hl w (p.tx q c) (m.nxt s c) ((dL p (bv m p i)).my.nxt t (p.sx q c)) (hp.tx hq hc) (hm.nr s.toNat c.toNat (by omega) (by omega)) (by rw [et]; omega) hw2 (by rw [et, hcl.nx, ← en]; exact hnN)
    rw [ih]
structure FOL (m : Mly) (p : Mpr) (w : List Int) : Prop where
  mv : bU (mdl m p).my = 0
  mi : (mdl m p).my.inp = p.ab
  s1 : SOK (mdl m p).my (mdl m p).my.st
  w1 : WOK (abV p w) (mdl m p).my.inp
  s2 : SOK m m.st
  w2 : WOK w m.inp
  go : ((mdl m p).my.go (mdl m p).my.st (abV p w)).2 = (m.go m.st w).2.map (1 + ·)
  ml : MOK m
theorem rz {m : Mly} {p : Mpr} {w : List Int} (h : (mdl m p).e = 0 ∧ (mdl m p).f = true) (ha : abE p w = 0) : FOL m p w := by
  obtain ⟨i, hm, hp, hi, hR, hl, h0, he⟩ := nt h
  obtain ⟨_, hwE, hv⟩ := rj ha
  have hM := qR hm hp hi hR hl h0
  have hws := kq hwE
  have hwl := (gY hwE).len
  have hn := dt m p i
  have hps : 0 ≤ p.st ∧ p.st < p.nx.length := ⟨hp.s1, hp.s2⟩
  rw [← he] at hM
  have e1 : (mdl m p).my = ⟨p.ab, 0, (bv m p i).N, (bv m p i).O⟩ := by rw [he]; rfl
  refine ⟨nF hM, by rw [e1], ⟨hM, hM.s1, hM.s2⟩, ⟨by rw [hv, lC]; exact hwl, ?_⟩, ⟨hm, hm.s1, hm.s2⟩, by rw [hi]; exact gY hwE, ?_, hm⟩
  · rw [e1, hv]; exact rh (nT hp w hps hws)
  · rw [he, hv]
    have hst0 : (bv m p i).S.getD 0 ss0 = (bv m p 0).S.getD 0 ss0 := by
      clear hl h0 he hM e1 hn h
      induction i with
      | zero => rfl
      | succ i ih =>
        have h1 := (hR i (by omega)).1
        have hR2 : RIM m p i := fun j hj => hR j (by omega)
        have h2 := (gD hR2).1
        rw [← ih hR2]
        exact hO (by omega) _
    exact oh hm hp hi hR hl w p.st m.st 0 hps ⟨hm.s1, hm.s2⟩ ⟨by decide, by omega⟩ hws (by
      show _ ∈ ((bv m p i).S.getD 0 ss0).1
      rw [hst0]; exact List.mem_singleton.2 rfl)
end Go.AV
namespace Go.Proofs.YtgmgnkmgofkfpaaDoor
open Go Go.AV
open Nat renaming reduceEqDiff → J, reduceAdd → E, reduceLeDiff → U, reduceLT → Z, reduceMul → V, reduceSub → Y
open List renaming set_cons_zero → aw, set_cons_succ → au
set_option maxRecDepth 100000 in
theorem ov (m : Mly) (s : Int) (w : List Int) (hs : SOK m s) (hw : WOK w m.inp) : cp Tryd.prog 28 [m.av, .one (.int .i64 s), .one (.list (.int .i64) w)] (.tup [.one (.list (.int .i64) (m.go s w).2), .one (.int .i64 (m.go s w).1)]) := by
 refine bC Tryd.func28 rfl (by kernel_rfl) (Nat.le_of_ble_eq_true rfl) rfl fun C hP hN hB => ?_
 replace hN : C.N = 43 := hN
 simp only [ae, E]
 refine ah fun K1 hK1 => ?_
 refine aq hP hN rfl ?_
 iterate 3 (refine ag rfl fun K0 aa => ?_; simp only [zE, op1, ev, lkp, am, ak, cR, aA, reduceCtorEq, J, E, U, Z, V, Y, Tryd.el25, Tryd.st47, Tryd.td25, Tryd.td3, Tryd.td47, Mly.av]; (repeat refine And.intro (by first | omega | assumption | exact rfl) ?_); refine aa _ ?_; clear aa K0; simp only [put, app, af, aj, zE, zS, E])
 refine ao ?_
 refine hK1 _ ?_; clear hK1; refine ai [0, 1, 2, 3, 6, 7] ?_; simp only [ad, lkp, zE, reduceCtorEq, J, ae, E]
 refine ah fun K2 hK2 => ?_
 refine aq hP hN rfl ?_
 (refine ag rfl fun K0 aa => ?_; simp only [zE, op1, ev, lkp, am, ak, ev, reduceCtorEq, J, E, U, Z, V, Y, Tryd.el25, Tryd.td25, Mly.av]; refine aa _ ?_; clear aa K0; simp only [put, app, af, aj, zE, zS, E])
 refine ao ?_
 refine hK2 _ ?_; clear hK2; refine ai [0, 1, 2, 3, 6, 7, 8] ?_; simp only [ad, lkp, zE, reduceCtorEq, J, ae, E]
 refine ah fun K3 hK3 => ?_
 refine ah fun K4 hK4 => ?_
 refine aq hP hN rfl ?_
 (refine ag rfl fun K0 aa => ?_; simp only [zE, op1, ev, lkp, am, ak, ev, reduceCtorEq, J, E, U, Z, V, Y, Tryd.td3, Mly.av]; refine aa _ ?_; clear aa K0; simp only [put, app, af, aj, zE, zS, E])
 refine ao ?_
 refine hK4 _ ?_; clear hK4; refine ai [0, 1, 2, 3, 6, 7, 8, 9] ?_; simp only [ad, lkp, zE, reduceCtorEq, J, ae, E]
 refine aY ?_
 refine dg 8 (.int .i64) 3 (by decide) rfl ?_; simp only [List.length_cons, List.length_nil, List.cons_append, List.nil_append, Nat.zero_add, E]
 refine c8 (fun n5 s5 => ∃ (k : Nat) (v : Nat), (k ≤ w.length) ∧ n5 = w.length - k ∧ s5 = { env := [(1, .one (.int .i64 (m.go s (w.take k)).1)), (2, .one (.list (.int .i64) w)), (3, .one (.ptr 0 0 0 0)), (8, .one (.row 1 v)), (9, .one (.int .i64 (k : Int)))], L := [.vars 47 [.int .i64 m.inp, .int .i64 m.st, .list (.list (.int .i64)) m.nx, .list (.list (.int .i64)) m.ot], .row (.int .i64) 3 v (m.go s (w.take k)).2] }) ?_ ?_
 ·exact ⟨_, _, ba [1, 2, 3, 8, 9], 0, 0, Nat.zero_le _, rfl, rfl⟩
 ·rintro n5 s5 ⟨k, v, hk, rfl, rfl⟩
  have hgo := ss hs.ok hs.s0 hs.s1 hw k hk; have hlen := hw.len; have hgl := o4 m s (w.take k); rw [List.length_take] at hgl; have h1 := hs.ok.rl (m.go s (w.take k)).1.toNat (by omega); have h2 := hs.ok.ql (m.go s (w.take k)).1.toNat (by omega); have h3 := hs.ok.ol; have hsy := hw.sym k
  refine ah fun K6 hK6 => ?_
  refine ah fun K7 hK7 => ?_
  refine aq hP hN rfl ?_
  iterate 4 (refine ag rfl fun K0 aa => ?_; simp only [zE, op1, ev, lkp, am, ak, aK, bK, br, bj, bl, bJ, Nat.div_one, aP, bm, Ty.size, aL, dite_true, aG, aH, aI, ay, aF, aS, reduceCtorEq, J, E, U, Z, V, Y, Tryd.el25, Tryd.td25, Tryd.td3, Tryd.td4, Mly.av]; (repeat refine And.intro (by first | omega | assumption | exact rfl) ?_); (first | refine aa _ ?_ | refine Or.inl (aa _ ?_)); clear aa K0; simp only [put, app, af, aj, zE, zS, E])
  refine ao ?_
  refine hK7 _ ?_; clear hK7; refine ai [1, 2, 3, 8, 9, 13] ?_; simp only [ad, lkp, zE, reduceCtorEq, J, ae, E]
  refine aJ (by simp only [ev, ad, lkp, zE, reduceCtorEq, J, ae, E]; exact rfl) (fun hc8 => ?_) (fun hc8 => ?_)
  ·(try simp only [zB, reduceCtorEq] at hc8)
   refine aM ?_
   refine hK6 _ ?_; clear hK6; refine ai [1, 2, 3, 8, 9, 13] ?_; simp only [ad, lkp, zE, reduceCtorEq, J, ae, E]
   refine ah fun K9 hK9 => ?_
   refine aY ?_
   refine ah fun K10 hK10 => ?_
   refine cg hP hN Tryd.mixed rfl ?_
   iterate 15 (refine ag rfl fun K0 aa => ?_; simp only [zE, op1, ev, lkp, am, ak, ax, aE, Nat.mul_one, aC, aD, acs, Ty.dflt, zG, az, aT, Ty.size, ne_eq, not_false_eq_true, Int.natCast_one, Int.mul_one, bc, bo, c9, rep, aL, aV, aA, aK, bK, br, bj, bl, bJ, Nat.div_one, aP, bm, dite_true, reduceCtorEq, J, E, U, Z, V, Y, Tryd.el22, Tryd.el25, Tryd.st47, Tryd.td1, Tryd.td22, Tryd.td25, Tryd.td3, Tryd.td47, Mly.av]; (repeat refine And.intro (by first | omega | assumption | exact rfl) ?_); (first | refine aa _ ?_ | refine Or.inl (aa _ ?_)); clear aa K0; simp only [put, app, af, aj, zE, zS, E])
   refine ao ?_
   refine ⟨by kernel_rfl, ?_⟩
   refine hK10 _ ?_; clear hK10; refine ai [1, 2, 3, 8, 9, 13] ?_; simp only [ad, lkp, zE, reduceCtorEq, J, ae, E]
   refine cg hP hN Tryd.mixed rfl ?_
   iterate 12 (refine ag rfl fun K0 aa => ?_; simp only [zE, op1, ev, lkp, am, ak, ax, aE, Nat.mul_one, aC, aD, acs, Ty.dflt, zG, az, aT, Ty.size, ne_eq, not_false_eq_true, Int.natCast_one, Int.mul_one, reduceCtorEq, J, E, U, Z, V, Y, Tryd.el22, Tryd.el25, Tryd.st47, Tryd.td2, Tryd.td22, Tryd.td25, Tryd.td3, Tryd.td47, Mly.av]; (repeat refine And.intro (by first | omega | assumption | exact rfl) ?_); refine aa _ ?_; clear aa K0; simp only [put, app, af, aj, zE, zS, E])
   refine ao ?_
   refine ⟨by kernel_rfl, ?_⟩
   refine hK9 _ ?_; clear hK9; refine ai [1, 2, 3, 8, 9, 13] ?_; simp only [ad, lkp, zE, reduceCtorEq, J, ae, E]
   refine aq hP hN rfl ?_
   iterate 3 (refine ag rfl fun K0 aa => ?_; simp only [zE, op1, ev, lkp, am, ak, aG, aH, aI, ay, aF, aS, reduceCtorEq, J, E, U, Z, V, Y, Tryd.td3, Mly.av]; (repeat refine And.intro (by first | omega | assumption | exact rfl) ?_); refine aa _ ?_; clear aa K0; simp only [put, app, af, aj, zE, zS, E])
   refine ao ?_
   refine ⟨_, _, ?_, ba [1, 2, 3, 8, 9], k + 1, v + 1, by omega, rfl, ?_⟩
   · omega
   · rw [mL m s (by omega)]; rfl
  ·(try simp only [zB, reduceCtorEq] at hc8)
   refine bZ ?_
   refine hK3 _ ?_; clear hK3; refine ai [1, 2, 3, 8, 9, 13] ?_; simp only [ad, lkp, zE, reduceCtorEq, J, ae, E]
   refine ah fun K11 hK11 => ?_
   refine aq hP hN rfl ?_
   iterate 4 (refine ag rfl fun K0 aa => ?_; simp only [zE, op1, ev, lkp, am, ak, ev, reduceCtorEq, J, E, U, Z, V, Y, Tryd.el25, Tryd.td25, Tryd.td3, Mly.av]; refine aa _ ?_; clear aa K0; simp only [put, app, af, aj, zE, zS, E])
   refine ao ?_
   refine hK11 _ ?_; clear hK11; refine ai [1, 2, 3, 6, 7, 8, 9, 13] ?_; simp only [ad, lkp, zE, reduceCtorEq, J, ae, E]
   refine aQ ?_
   refine ⟨by first | exact .inl rfl | exact .inr rfl, _, rfl, ?_⟩; simp only [fzV, fz1, fzC, List.map_cons, List.map_nil, ad, lkp, zE, reduceCtorEq, J, ae, E, Mly.av]
   refine VLE.of_eq ?_
   have htk : w.take k = w := by rw [show k = w.length by omega, List.take_length]
   rw [htk]; try simp
end Go.Proofs.YtgmgnkmgofkfpaaDoor
namespace Go.Proofs.YtgmgnkmgofkfpaaDoor
open Go Go.AV
open Nat renaming reduceEqDiff → J, reduceAdd → E, reduceLeDiff → U, reduceLT → Z, reduceMul → V, reduceSub → Y
open List renaming set_cons_zero → aw, set_cons_succ → au
set_option maxRecDepth 100000 in
theorem rI (m : Mly) (s : Nat) (hi : m.inp ≤ 64) (hs : s < m.nx.length) (ho : m.ot.length = m.nx.length) : cp Tryd.prog 49 [m.av, .one (.int .i64 (s : Int))] (.one (.int .i64 (eR m s))) := by
 refine bC Tryd.func49 rfl (by kernel_rfl) (Nat.le_of_ble_eq_true rfl) rfl fun C hP hN hB => ?_
 replace hN : C.N = 77 := hN
 simp only [ae, E]
 refine ah fun K1 hK1 => ?_
 refine aq hP hN rfl ?_
 iterate 2 (refine ag rfl fun K0 aa => ?_; simp only [zE, op1, ev, lkp, am, ak, cR, aA, reduceCtorEq, J, E, U, Z, V, Y, Tryd.st47, Tryd.td3, Tryd.td47, Mly.av]; (repeat refine And.intro (by first | omega | assumption | exact rfl) ?_); refine aa _ ?_; clear aa K0; simp only [put, app, af, aj, zE, zS, E])
 refine ao ?_
 refine hK1 _ ?_; clear hK1; refine ai [0, 1, 2, 4] ?_; simp only [ad, lkp, zE, reduceCtorEq, J, ae, E]
 refine ah fun K2 hK2 => ?_
 refine ah fun K3 hK3 => ?_
 refine cg hP hN Tryd.mixed rfl ?_
 iterate 9 (refine ag rfl fun K0 aa => ?_; simp only [zE, op1, ev, lkp, am, ak, ax, aE, Nat.mul_one, aC, aD, acs, Ty.dflt, zG, az, aT, Ty.size, ne_eq, not_false_eq_true, Int.natCast_one, Int.mul_one, aK, bK, br, bj, bl, bJ, Nat.div_one, aP, bm, aL, dite_true, aG, aH, aI, ay, aF, aS, reduceCtorEq, J, E, U, Z, V, Y, Tryd.el22, Tryd.el25, Tryd.st47, Tryd.td2, Tryd.td22, Tryd.td25, Tryd.td3, Tryd.td4, Tryd.td47, Mly.av]; (repeat refine And.intro (by first | omega | assumption | exact rfl) ?_); (first | refine aa _ ?_ | refine Or.inl (aa _ ?_)); clear aa K0; simp only [put, app, af, aj, zE, zS, E])
 (refine ag rfl fun K0 aa => ?_; simp only [zE, op1, ev, lkp, am, ak, ev, reduceCtorEq, J, E, U, Z, V, Y, Tryd.td4, Mly.av]; refine aa _ ?_; clear aa K0; simp only [put, app, af, aj, zE, zS, E])
 refine' aZ (want := false) 9 rfl (m := 15) (by simp only [ad, lkp, zE, reduceCtorEq, J, ae, E]; exact rfl) (by kernel_rfl) rfl rfl rfl rfl rfl (fun hg4 => ?a4) ?b4 ?c4
 case a4 =>
  have hq4 := hg4; (try simp only [zB, reduceCtorEq] at hg4); simp only [List.take_succ_cons, List.take_zero, List.cons_append, List.nil_append]
  (refine aB rfl fun K0 aa => ?_; simp only [zE, op1, ev, lkp, am, ak, ax, reduceCtorEq, J, E, U, Z, V, Y, Tryd.st47, Tryd.td3, Tryd.td47, Mly.av]; (repeat refine And.intro (by first | omega | assumption | exact rfl) ?_); refine aa _ ?_; clear aa K0; simp only [put, app, af, aj, zE, zS, E])
  (refine aB rfl fun K0 aa => ?_; simp only [zE, op1, ev, lkp, am, ak, aE, Nat.mul_one, aC, aD, acs, Ty.dflt, zG, az, reduceCtorEq, J, E, U, Z, V, Y, Tryd.el22, Tryd.td22, Mly.av]; (repeat refine And.intro (by first | omega | assumption | exact rfl) ?_); refine aa _ ?_; clear aa K0; simp only [put, app, af, aj, zE, zS, E])
  (refine aB rfl fun K0 aa => ?_; simp only [zE, op1, ev, lkp, am, ak, ev, reduceCtorEq, J, E, U, Z, V, Y, Tryd.td3, Mly.av]; refine aa _ ?_; clear aa K0; simp only [put, app, af, aj, zE, zS, E])
  (refine aB rfl fun K0 aa => ?_; simp only [zE, op1, ev, lkp, am, ak, aT, zG, Ty.dflt, Ty.size, Nat.mul_one, ne_eq, not_false_eq_true, Int.natCast_one, Int.mul_one, reduceCtorEq, J, E, U, Z, V, Y, Tryd.el22, Tryd.td22, Mly.av]; (repeat refine And.intro (by first | omega | assumption | exact rfl) ?_); refine aa _ ?_; clear aa K0; simp only [put, app, af, aj, zE, zS, E])
  (refine aB rfl fun K0 aa => ?_; simp only [zE, op1, ev, lkp, am, ak, aE, Nat.mul_one, aC, aD, acs, Ty.dflt, zG, az, reduceCtorEq, J, E, U, Z, V, Y, Tryd.el25, Tryd.td25, Mly.av]; (repeat refine And.intro (by first | omega | assumption | exact rfl) ?_); refine aa _ ?_; clear aa K0; simp only [put, app, af, aj, zE, zS, E])
  (refine aB rfl fun K0 aa => ?_; simp only [zE, op1, ev, lkp, am, ak, aK, bK, br, bj, bl, bJ, Nat.div_one, aP, bm, Ty.size, aL, dite_true, reduceCtorEq, J, E, U, Z, V, Y, Tryd.el25, Tryd.td25, Tryd.td3, Mly.av]; (repeat refine And.intro (by first | omega | assumption | exact rfl) ?_); (first | refine aa _ ?_ | refine Or.inl (aa _ ?_)); clear aa K0; simp only [put, app, af, aj, zE, zS, E])
  (refine aB rfl fun K0 aa => ?_; simp only [zE, op1, ev, lkp, am, ak, ax, reduceCtorEq, J, E, U, Z, V, Y, Tryd.st47, Tryd.td47, Mly.av]; (repeat refine And.intro (by first | omega | assumption | exact rfl) ?_); refine aa _ ?_; clear aa K0; simp only [put, app, af, aj, zE, zS, E])
  (refine aB rfl fun K0 aa => ?_; simp only [zE, op1, ev, lkp, am, ak, aE, Nat.mul_one, aC, aD, acs, Ty.dflt, zG, az, reduceCtorEq, J, E, U, Z, V, Y, Tryd.td3, Mly.av]; (repeat refine And.intro (by first | omega | assumption | exact rfl) ?_); refine aa _ ?_; clear aa K0; simp only [put, app, af, aj, zE, zS, E])
  (refine aB rfl fun K0 aa => ?_; simp only [zE, op1, ev, lkp, am, ak, aG, aH, aI, ay, aF, aS, reduceCtorEq, J, E, U, Z, V, Y, Tryd.td3, Tryd.td4, Mly.av]; (repeat refine And.intro (by first | omega | assumption | exact rfl) ?_); refine aa _ ?_; clear aa K0; simp only [put, app, af, aj, zE, zS, E])
  (refine ag rfl fun K0 aa => ?_; simp only [zE, op1, ev, lkp, am, ak, bB, reduceCtorEq, J, E, U, Z, V, Y, Tryd.td4, Mly.av]; refine aa _ ?_; clear aa K0; simp only [put, app, af, aj, zE, zS, E])
  refine ao ?_
  refine ⟨by simp only [ad, lkp, zE, reduceCtorEq, J, ae, E]; exact rfl, rfl, ?_, rfl⟩; (repeat refine b8 rfl ?_); exact bG (by exact rfl) hq4
 case b4 => exact bD (by first | rfl | (simp [cf]; done) | decide)
 simp only [bp, bg]
 refine ao ?_
 refine ⟨by kernel_rfl, ?_⟩
 refine hK3 _ ?_; clear hK3; refine ai [0, 1, 2, 4, 25] ?_; simp only [ad, lkp, zE, reduceCtorEq, J, ae, E]
 refine aJ (by simp only [ev, ad, lkp, zE, reduceCtorEq, J, ae, E]; exact rfl) (fun hc5 => ?_) (fun hc5 => ?_)
 ·(try simp only [zB, reduceCtorEq] at hc5)
  refine ah fun K6 hK6 => ?_
  refine aq hP hN rfl ?_
  (refine ag rfl fun K0 aa => ?_; simp only [zE, op1, ev, lkp, am, ak, ev, reduceCtorEq, J, E, U, Z, V, Y, Tryd.td3, Mly.av]; refine aa _ ?_; clear aa K0; simp only [put, app, af, aj, zE, zS, E])
  refine ao ?_
  refine hK6 _ ?_; clear hK6; refine ai [0, 1, 2, 4, 25] ?_; simp only [ad, lkp, zE, reduceCtorEq, J, ae, E]
  refine aQ ?_
  refine ⟨by first | exact .inl rfl | exact .inr rfl, _, rfl, ?_⟩; simp only [fzV, fz1, fzC, List.map_cons, List.map_nil, ad, lkp, zE, reduceCtorEq, J, ae, E, Mly.av]
  refine VLE.of_eq ?_
  refine congrArg (fun n => AV.one (AC.int IntKind.i64 n)) ?_
  symm
  first
  | exact ci hc5
  | exact ch hc5.1 hc5.2 (j := j) (by omega) (by unfold bS; omega)
  | exact gV hc5.1 hc5.2 fun a ha => hcells a (by omega)
 ·(try simp only [zB, reduceCtorEq] at hc5)
  refine aM ?_
  refine hK2 _ ?_; clear hK2; refine ai [0, 1, 2, 4, 25] ?_; simp only [ad, lkp, zE, reduceCtorEq, J, ae, E]
  refine ah fun K7 hK7 => ?_
  refine ah fun K8 hK8 => ?_
  refine aq hP hN rfl ?_
  (refine ag rfl fun K0 aa => ?_; simp only [zE, op1, ev, lkp, am, ak, ev, reduceCtorEq, J, E, U, Z, V, Y, Tryd.td3, Mly.av]; refine aa _ ?_; clear aa K0; simp only [put, app, af, aj, zE, zS, E])
  refine ao ?_
  refine hK8 _ ?_; clear hK8; refine ai [0, 1, 2, 4, 5, 25] ?_; simp only [ad, lkp, zE, reduceCtorEq, J, ae, E]
  refine aY ?_
  refine c8 (fun n9 s9 => ∃ (j : Nat), (∀ a, a < j → ¬ bS m s a) ∧ (j ≤ m.inp.toNat) ∧ n9 = m.inp.toNat - j ∧ s9 = { env := [(1, .one (.int .i64 (s : Int))), (2, .one (.ptr 0 0 0 0)), (5, .one (.int .i64 (j : Int)))], L := [.vars 47 [.int .i64 m.inp, .int .i64 m.st, .list (.list (.int .i64)) m.nx, .list (.list (.int .i64)) m.ot]] }) ?_ ?_
  ·exact ⟨_, _, ba [1, 2, 5], 0, fun i hi => by omega, Nat.zero_le _, rfl, rfl⟩
  ·rintro n9 s9 ⟨j, hcells, hj, rfl, rfl⟩
   refine ah fun K10 hK10 => ?_
   refine ah fun K11 hK11 => ?_
   refine aq hP hN rfl ?_
   iterate 4 (refine ag rfl fun K0 aa => ?_; simp only [zE, op1, ev, lkp, am, ak, ax, aE, Nat.mul_one, aC, aD, acs, Ty.dflt, zG, az, aG, aH, aI, ay, aF, aS, reduceCtorEq, J, E, U, Z, V, Y, Tryd.st47, Tryd.td3, Tryd.td4, Tryd.td47, Mly.av]; (repeat refine And.intro (by first | omega | assumption | exact rfl) ?_); refine aa _ ?_; clear aa K0; simp only [put, app, af, aj, zE, zS, E])
   refine ao ?_
   refine hK11 _ ?_; clear hK11; refine ai [1, 2, 5, 29] ?_; simp only [ad, lkp, zE, reduceCtorEq, J, ae, E]
   refine aJ (by simp only [ev, ad, lkp, zE, reduceCtorEq, J, ae, E]; exact rfl) (fun hc12 => ?_) (fun hc12 => ?_)
   ·(try simp only [zB, reduceCtorEq] at hc12)
    refine aM ?_
    refine hK10 _ ?_; clear hK10; refine ai [1, 2, 5, 29] ?_; simp only [ad, lkp, zE, reduceCtorEq, J, ae, E]
    refine ah fun K13 hK13 => ?_
    refine aY ?_
    refine ah fun K14 hK14 => ?_
    refine cg hP hN Tryd.mixed rfl ?_
    iterate 9 (refine ag rfl fun K0 aa => ?_; simp only [zE, op1, ev, lkp, am, ak, ax, aE, Nat.mul_one, aC, aD, acs, Ty.dflt, zG, az, aT, Ty.size, ne_eq, not_false_eq_true, Int.natCast_one, Int.mul_one, aG, aH, aI, ay, aF, aS, reduceCtorEq, J, E, U, Z, V, Y, Tryd.el22, Tryd.el25, Tryd.st47, Tryd.td2, Tryd.td22, Tryd.td25, Tryd.td3, Tryd.td4, Tryd.td47, Mly.av]; (repeat refine And.intro (by first | omega | assumption | exact rfl) ?_); refine aa _ ?_; clear aa K0; simp only [put, app, af, aj, zE, zS, E])
    (refine ag rfl fun K0 aa => ?_; simp only [zE, op1, ev, lkp, am, ak, ev, reduceCtorEq, J, E, U, Z, V, Y, Tryd.td4, Mly.av]; refine aa _ ?_; clear aa K0; simp only [put, app, af, aj, zE, zS, E])
    refine' aZ (want := false) 12 rfl (m := 41) (by simp only [ad, lkp, zE, reduceCtorEq, J, ae, E]; exact rfl) (by kernel_rfl) rfl rfl rfl rfl rfl (fun hg15 => ?a15) ?b15 ?c15
    case a15 =>
     have hq15 := hg15; (try simp only [zB, reduceCtorEq] at hg15); simp only [List.take_succ_cons, List.take_zero, List.cons_append, List.nil_append]
     (refine aB rfl fun K0 aa => ?_; simp only [zE, op1, ev, lkp, am, ak, ax, reduceCtorEq, J, E, U, Z, V, Y, Tryd.st47, Tryd.td2, Tryd.td47, Mly.av]; (repeat refine And.intro (by first | omega | assumption | exact rfl) ?_); refine aa _ ?_; clear aa K0; simp only [put, app, af, aj, zE, zS, E])
     (refine aB rfl fun K0 aa => ?_; simp only [zE, op1, ev, lkp, am, ak, aE, Nat.mul_one, aC, aD, acs, Ty.dflt, zG, az, reduceCtorEq, J, E, U, Z, V, Y, Tryd.el22, Tryd.td22, Mly.av]; (repeat refine And.intro (by first | omega | assumption | exact rfl) ?_); refine aa _ ?_; clear aa K0; simp only [put, app, af, aj, zE, zS, E])
     (refine aB rfl fun K0 aa => ?_; simp only [zE, op1, ev, lkp, am, ak, ev, reduceCtorEq, J, E, U, Z, V, Y, Tryd.td3, Mly.av]; refine aa _ ?_; clear aa K0; simp only [put, app, af, aj, zE, zS, E])
     (refine aB rfl fun K0 aa => ?_; simp only [zE, op1, ev, lkp, am, ak, aT, zG, Ty.dflt, Ty.size, Nat.mul_one, ne_eq, not_false_eq_true, Int.natCast_one, Int.mul_one, reduceCtorEq, J, E, U, Z, V, Y, Tryd.el22, Tryd.td22, Mly.av]; (repeat refine And.intro (by first | omega | assumption | exact rfl) ?_); refine aa _ ?_; clear aa K0; simp only [put, app, af, aj, zE, zS, E])
     (refine aB rfl fun K0 aa => ?_; simp only [zE, op1, ev, lkp, am, ak, aE, Nat.mul_one, aC, aD, acs, Ty.dflt, zG, az, reduceCtorEq, J, E, U, Z, V, Y, Tryd.el25, Tryd.td25, Mly.av]; (repeat refine And.intro (by first | omega | assumption | exact rfl) ?_); refine aa _ ?_; clear aa K0; simp only [put, app, af, aj, zE, zS, E])
     (refine aB rfl fun K0 aa => ?_; simp only [zE, op1, ev, lkp, am, ak, ev, reduceCtorEq, J, E, U, Z, V, Y, Tryd.td3, Mly.av]; refine aa _ ?_; clear aa K0; simp only [put, app, af, aj, zE, zS, E])
     (refine aB rfl fun K0 aa => ?_; simp only [zE, op1, ev, lkp, am, ak, aT, zG, Ty.dflt, Ty.size, Nat.mul_one, ne_eq, not_false_eq_true, Int.natCast_one, Int.mul_one, reduceCtorEq, J, E, U, Z, V, Y, Tryd.el25, Tryd.td25, Mly.av]; (repeat refine And.intro (by first | omega | assumption | exact rfl) ?_); refine aa _ ?_; clear aa K0; simp only [put, app, af, aj, zE, zS, E])
     (refine aB rfl fun K0 aa => ?_; simp only [zE, op1, ev, lkp, am, ak, aE, Nat.mul_one, aC, aD, acs, Ty.dflt, zG, az, reduceCtorEq, J, E, U, Z, V, Y, Tryd.td3, Mly.av]; (repeat refine And.intro (by first | omega | assumption | exact rfl) ?_); refine aa _ ?_; clear aa K0; simp only [put, app, af, aj, zE, zS, E])
     (refine aB rfl fun K0 aa => ?_; simp only [zE, op1, ev, lkp, am, ak, ax, reduceCtorEq, J, E, U, Z, V, Y, Tryd.st47, Tryd.td2, Tryd.td47, Mly.av]; (repeat refine And.intro (by first | omega | assumption | exact rfl) ?_); refine aa _ ?_; clear aa K0; simp only [put, app, af, aj, zE, zS, E])
     (refine aB rfl fun K0 aa => ?_; simp only [zE, op1, ev, lkp, am, ak, aE, Nat.mul_one, aC, aD, acs, Ty.dflt, zG, az, reduceCtorEq, J, E, U, Z, V, Y, Tryd.el22, Tryd.td22, Mly.av]; (repeat refine And.intro (by first | omega | assumption | exact rfl) ?_); refine aa _ ?_; clear aa K0; simp only [put, app, af, aj, zE, zS, E])
     (refine aB rfl fun K0 aa => ?_; simp only [zE, op1, ev, lkp, am, ak, aK, bK, br, bj, bl, bJ, Nat.div_one, aP, bm, Ty.size, aL, dite_true, reduceCtorEq, J, E, U, Z, V, Y, Tryd.el22, Tryd.td22, Tryd.td3, Mly.av]; (repeat refine And.intro (by first | omega | assumption | exact rfl) ?_); (first | refine aa _ ?_ | refine Or.inl (aa _ ?_)); clear aa K0; simp only [put, app, af, aj, zE, zS, E])
     (refine aB rfl fun K0 aa => ?_; simp only [zE, op1, ev, lkp, am, ak, aG, aH, aI, ay, aF, aS, reduceCtorEq, J, E, U, Z, V, Y, Tryd.td3, Tryd.td4, Mly.av]; (repeat refine And.intro (by first | omega | assumption | exact rfl) ?_); refine aa _ ?_; clear aa K0; simp only [put, app, af, aj, zE, zS, E])
     (refine ag rfl fun K0 aa => ?_; simp only [zE, op1, ev, lkp, am, ak, bB, reduceCtorEq, J, E, U, Z, V, Y, Tryd.td4, Mly.av]; refine aa _ ?_; clear aa K0; simp only [put, app, af, aj, zE, zS, E])
     refine ao ?_
     refine ⟨by simp only [ad, lkp, zE, reduceCtorEq, J, ae, E]; exact rfl, rfl, ?_, rfl⟩; (repeat refine b8 rfl ?_); exact bG (by exact rfl) hq15
    case b15 => exact bD (by first | rfl | (simp [cf]; done) | decide)
    simp only [bp, bg]
    (refine ag rfl fun K0 aa => ?_; simp only [zE, op1, ev, lkp, am, ak, ev, reduceCtorEq, J, E, U, Z, V, Y, Tryd.td4, Mly.av]; refine aa _ ?_; clear aa K0; simp only [put, app, af, aj, zE, zS, E])
    refine' aZ (want := false) 9 rfl (m := 55) (by simp only [ad, lkp, zE, reduceCtorEq, J, ae, E]; exact rfl) (by kernel_rfl) rfl rfl rfl rfl rfl (fun hg16 => ?a16) ?b16 ?c16
    case a16 =>
     have hq16 := hg16; (try simp only [zB, reduceCtorEq] at hg16); simp only [List.take_succ_cons, List.take_zero, List.cons_append, List.nil_append]
     (refine aB rfl fun K0 aa => ?_; simp only [zE, op1, ev, lkp, am, ak, ax, reduceCtorEq, J, E, U, Z, V, Y, Tryd.st47, Tryd.td3, Tryd.td47, Mly.av]; (repeat refine And.intro (by first | omega | assumption | exact rfl) ?_); refine aa _ ?_; clear aa K0; simp only [put, app, af, aj, zE, zS, E])
     (refine aB rfl fun K0 aa => ?_; simp only [zE, op1, ev, lkp, am, ak, aE, Nat.mul_one, aC, aD, acs, Ty.dflt, zG, az, reduceCtorEq, J, E, U, Z, V, Y, Tryd.el22, Tryd.td22, Mly.av]; (repeat refine And.intro (by first | omega | assumption | exact rfl) ?_); refine aa _ ?_; clear aa K0; simp only [put, app, af, aj, zE, zS, E])
     (refine aB rfl fun K0 aa => ?_; simp only [zE, op1, ev, lkp, am, ak, ev, reduceCtorEq, J, E, U, Z, V, Y, Tryd.td3, Mly.av]; refine aa _ ?_; clear aa K0; simp only [put, app, af, aj, zE, zS, E])
     (refine aB rfl fun K0 aa => ?_; simp only [zE, op1, ev, lkp, am, ak, aT, zG, Ty.dflt, Ty.size, Nat.mul_one, ne_eq, not_false_eq_true, Int.natCast_one, Int.mul_one, reduceCtorEq, J, E, U, Z, V, Y, Tryd.el22, Tryd.td22, Mly.av]; (repeat refine And.intro (by first | omega | assumption | exact rfl) ?_); refine aa _ ?_; clear aa K0; simp only [put, app, af, aj, zE, zS, E])
     (refine aB rfl fun K0 aa => ?_; simp only [zE, op1, ev, lkp, am, ak, aE, Nat.mul_one, aC, aD, acs, Ty.dflt, zG, az, reduceCtorEq, J, E, U, Z, V, Y, Tryd.el25, Tryd.td25, Mly.av]; (repeat refine And.intro (by first | omega | assumption | exact rfl) ?_); refine aa _ ?_; clear aa K0; simp only [put, app, af, aj, zE, zS, E])
     (refine aB rfl fun K0 aa => ?_; simp only [zE, op1, ev, lkp, am, ak, ev, reduceCtorEq, J, E, U, Z, V, Y, Tryd.td3, Mly.av]; refine aa _ ?_; clear aa K0; simp only [put, app, af, aj, zE, zS, E])
     (refine aB rfl fun K0 aa => ?_; simp only [zE, op1, ev, lkp, am, ak, aT, zG, Ty.dflt, Ty.size, Nat.mul_one, ne_eq, not_false_eq_true, Int.natCast_one, Int.mul_one, reduceCtorEq, J, E, U, Z, V, Y, Tryd.el25, Tryd.td25, Mly.av]; (repeat refine And.intro (by first | omega | assumption | exact rfl) ?_); refine aa _ ?_; clear aa K0; simp only [put, app, af, aj, zE, zS, E])
     (refine aB rfl fun K0 aa => ?_; simp only [zE, op1, ev, lkp, am, ak, aE, Nat.mul_one, aC, aD, acs, Ty.dflt, zG, az, reduceCtorEq, J, E, U, Z, V, Y, Tryd.td3, Mly.av]; (repeat refine And.intro (by first | omega | assumption | exact rfl) ?_); refine aa _ ?_; clear aa K0; simp only [put, app, af, aj, zE, zS, E])
     (refine aB rfl fun K0 aa => ?_; simp only [zE, op1, ev, lkp, am, ak, aG, aH, aI, ay, aF, aS, reduceCtorEq, J, E, U, Z, V, Y, Tryd.td3, Tryd.td4, Mly.av]; (repeat refine And.intro (by first | omega | assumption | exact rfl) ?_); refine aa _ ?_; clear aa K0; simp only [put, app, af, aj, zE, zS, E])
     (refine ag rfl fun K0 aa => ?_; simp only [zE, op1, ev, lkp, am, ak, bB, reduceCtorEq, J, E, U, Z, V, Y, Tryd.td4, Mly.av]; refine aa _ ?_; clear aa K0; simp only [put, app, af, aj, zE, zS, E])
     refine ao ?_
     refine ⟨by simp only [ad, lkp, zE, reduceCtorEq, J, ae, E]; exact rfl, rfl, ?_, rfl⟩; (repeat refine b8 rfl ?_); exact bG (by exact rfl) hq16
    case b16 => exact bD (by first | rfl | (simp [cf]; done) | decide)
    simp only [bp, bg]
    (refine ag rfl fun K0 aa => ?_; simp only [zE, op1, ev, lkp, am, ak, ev, reduceCtorEq, J, E, U, Z, V, Y, Tryd.td4, Mly.av]; refine aa _ ?_; clear aa K0; simp only [put, app, af, aj, zE, zS, E])
    refine' aZ (want := false) 9 rfl (m := 66) (by simp only [ad, lkp, zE, reduceCtorEq, J, ae, E]; exact rfl) (by kernel_rfl) rfl rfl rfl rfl rfl (fun hg17 => ?a17) ?b17 ?c17
    case a17 =>
     have hq17 := hg17; (try simp only [zB, reduceCtorEq] at hg17); simp only [List.take_succ_cons, List.take_zero, List.cons_append, List.nil_append]
     (refine aB rfl fun K0 aa => ?_; simp only [zE, op1, ev, lkp, am, ak, ax, reduceCtorEq, J, E, U, Z, V, Y, Tryd.st47, Tryd.td3, Tryd.td47, Mly.av]; (repeat refine And.intro (by first | omega | assumption | exact rfl) ?_); refine aa _ ?_; clear aa K0; simp only [put, app, af, aj, zE, zS, E])
     (refine aB rfl fun K0 aa => ?_; simp only [zE, op1, ev, lkp, am, ak, aE, Nat.mul_one, aC, aD, acs, Ty.dflt, zG, az, reduceCtorEq, J, E, U, Z, V, Y, Tryd.el22, Tryd.td22, Mly.av]; (repeat refine And.intro (by first | omega | assumption | exact rfl) ?_); refine aa _ ?_; clear aa K0; simp only [put, app, af, aj, zE, zS, E])
     (refine aB rfl fun K0 aa => ?_; simp only [zE, op1, ev, lkp, am, ak, ev, reduceCtorEq, J, E, U, Z, V, Y, Tryd.td3, Mly.av]; refine aa _ ?_; clear aa K0; simp only [put, app, af, aj, zE, zS, E])
     (refine aB rfl fun K0 aa => ?_; simp only [zE, op1, ev, lkp, am, ak, aT, zG, Ty.dflt, Ty.size, Nat.mul_one, ne_eq, not_false_eq_true, Int.natCast_one, Int.mul_one, reduceCtorEq, J, E, U, Z, V, Y, Tryd.el22, Tryd.td22, Mly.av]; (repeat refine And.intro (by first | omega | assumption | exact rfl) ?_); refine aa _ ?_; clear aa K0; simp only [put, app, af, aj, zE, zS, E])
     (refine aB rfl fun K0 aa => ?_; simp only [zE, op1, ev, lkp, am, ak, aE, Nat.mul_one, aC, aD, acs, Ty.dflt, zG, az, reduceCtorEq, J, E, U, Z, V, Y, Tryd.el25, Tryd.td25, Mly.av]; (repeat refine And.intro (by first | omega | assumption | exact rfl) ?_); refine aa _ ?_; clear aa K0; simp only [put, app, af, aj, zE, zS, E])
     (refine aB rfl fun K0 aa => ?_; simp only [zE, op1, ev, lkp, am, ak, ev, reduceCtorEq, J, E, U, Z, V, Y, Tryd.td3, Mly.av]; refine aa _ ?_; clear aa K0; simp only [put, app, af, aj, zE, zS, E])
     (refine aB rfl fun K0 aa => ?_; simp only [zE, op1, ev, lkp, am, ak, aT, zG, Ty.dflt, Ty.size, Nat.mul_one, ne_eq, not_false_eq_true, Int.natCast_one, Int.mul_one, reduceCtorEq, J, E, U, Z, V, Y, Tryd.el25, Tryd.td25, Mly.av]; (repeat refine And.intro (by first | omega | assumption | exact rfl) ?_); refine aa _ ?_; clear aa K0; simp only [put, app, af, aj, zE, zS, E])
     (refine aB rfl fun K0 aa => ?_; simp only [zE, op1, ev, lkp, am, ak, aE, Nat.mul_one, aC, aD, acs, Ty.dflt, zG, az, reduceCtorEq, J, E, U, Z, V, Y, Tryd.td3, Mly.av]; (repeat refine And.intro (by first | omega | assumption | exact rfl) ?_); refine aa _ ?_; clear aa K0; simp only [put, app, af, aj, zE, zS, E])
     (refine aB rfl fun K0 aa => ?_; simp only [zE, op1, ev, lkp, am, ak, aG, aH, aI, ay, aF, aS, reduceCtorEq, J, E, U, Z, V, Y, Tryd.td3, Tryd.td4, Mly.av]; (repeat refine And.intro (by first | omega | assumption | exact rfl) ?_); refine aa _ ?_; clear aa K0; simp only [put, app, af, aj, zE, zS, E])
     (refine ag rfl fun K0 aa => ?_; simp only [zE, op1, ev, lkp, am, ak, bB, reduceCtorEq, J, E, U, Z, V, Y, Tryd.td4, Mly.av]; refine aa _ ?_; clear aa K0; simp only [put, app, af, aj, zE, zS, E])
     refine ao ?_
     refine ⟨by simp only [ad, lkp, zE, reduceCtorEq, J, ae, E]; exact rfl, rfl, ?_, rfl⟩; (repeat refine b8 rfl ?_); exact bG (by exact rfl) hq17
    case b17 => exact bD (by first | rfl | (simp [cf]; done) | decide)
    simp only [bp, bg]
    refine ao ?_
    refine ⟨by kernel_rfl, ?_⟩
    refine hK14 _ ?_; clear hK14; refine ai [1, 2, 5, 29, 76] ?_; simp only [ad, lkp, zE, reduceCtorEq, J, ae, E]
    refine aJ (by simp only [ev, ad, lkp, zE, reduceCtorEq, J, ae, E]; exact rfl) (fun hc18 => ?_) (fun hc18 => ?_)
    ·(try simp only [zB, reduceCtorEq] at hc18)
     refine ah fun K19 hK19 => ?_
     refine aq hP hN rfl ?_
     (refine ag rfl fun K0 aa => ?_; simp only [zE, op1, ev, lkp, am, ak, ev, reduceCtorEq, J, E, U, Z, V, Y, Tryd.td3, Mly.av]; refine aa _ ?_; clear aa K0; simp only [put, app, af, aj, zE, zS, E])
     refine ao ?_
     refine hK19 _ ?_; clear hK19; refine ai [1, 2, 4, 5, 29, 76] ?_; simp only [ad, lkp, zE, reduceCtorEq, J, ae, E]
     refine aQ ?_
     refine ⟨by first | exact .inl rfl | exact .inr rfl, _, rfl, ?_⟩; simp only [fzV, fz1, fzC, List.map_cons, List.map_nil, ad, lkp, zE, reduceCtorEq, J, ae, E, Mly.av]
     refine VLE.of_eq ?_
     refine congrArg (fun n => AV.one (AC.int IntKind.i64 n)) ?_
     symm
     first
     | exact ci hc5
     | exact ch hc5.1 hc5.2 (j := j) (by omega) (by unfold bS; omega)
     | exact gV hc5.1 hc5.2 fun a ha => hcells a (by omega)
    ·(try simp only [zB, reduceCtorEq] at hc18)
     refine aM ?_
     refine hK13 _ ?_; clear hK13; refine ai [1, 2, 5, 29, 76] ?_; simp only [ad, lkp, zE, reduceCtorEq, J, ae, E]
     refine aq hP hN rfl ?_
     iterate 3 (refine ag rfl fun K0 aa => ?_; simp only [zE, op1, ev, lkp, am, ak, aG, aH, aI, ay, aF, aS, reduceCtorEq, J, E, U, Z, V, Y, Tryd.td3, Mly.av]; (repeat refine And.intro (by first | omega | assumption | exact rfl) ?_); refine aa _ ?_; clear aa K0; simp only [put, app, af, aj, zE, zS, E])
     refine ao ?_
     refine ⟨_, _, ?_, ba [1, 2, 5], j + 1, fun a ha => ?_, ?_, rfl, rfl⟩
     · omega
     · by_cases e : a = j
       · rw [e]; unfold bS; omega
       · exact hcells a (by omega)
     · omega
   ·(try simp only [zB, reduceCtorEq] at hc12)
    refine bZ ?_
    refine hK7 _ ?_; clear hK7; refine ai [1, 2, 5, 29] ?_; simp only [ad, lkp, zE, reduceCtorEq, J, ae, E]
    refine ah fun K20 hK20 => ?_
    refine aq hP hN rfl ?_
    (refine ag rfl fun K0 aa => ?_; simp only [zE, op1, ev, lkp, am, ak, ev, reduceCtorEq, J, E, U, Z, V, Y, Tryd.td3, Mly.av]; refine aa _ ?_; clear aa K0; simp only [put, app, af, aj, zE, zS, E])
    refine ao ?_
    refine hK20 _ ?_; clear hK20; refine ai [1, 2, 4, 5, 29] ?_; simp only [ad, lkp, zE, reduceCtorEq, J, ae, E]
    refine aQ ?_
    refine ⟨by first | exact .inl rfl | exact .inr rfl, _, rfl, ?_⟩; simp only [fzV, fz1, fzC, List.map_cons, List.map_nil, ad, lkp, zE, reduceCtorEq, J, ae, E, Mly.av]
    refine VLE.of_eq ?_
    refine congrArg (fun n => AV.one (AC.int IntKind.i64 n)) ?_
    symm
    first
    | exact ci hc5
    | exact ch hc5.1 hc5.2 (j := j) (by omega) (by unfold bS; omega)
    | exact gV hc5.1 hc5.2 fun a ha => hcells a (by omega)
end Go.Proofs.YtgmgnkmgofkfpaaDoor
namespace Go.Proofs.YtgmgnkmgofkfpaaDoor
open Go Go.AV
open Nat renaming reduceEqDiff → J, reduceAdd → E, reduceLeDiff → U, reduceLT → Z, reduceMul → V, reduceSub → Y
open List renaming set_cons_zero → aw, set_cons_succ → au
set_option maxRecDepth 100000 in
theorem p3 (m : Mly) : cp Tryd.prog 27 [m.av] (.one (.int .i64 (bU m))) := by
 refine bC Tryd.func27 rfl (by kernel_rfl) (Nat.le_of_ble_eq_true rfl) rfl fun C hP hN hB => ?_
 replace hN : C.N = 52 := hN
 simp only [ae, E]
 refine ah fun K1 hK1 => ?_
 refine aq hP hN rfl ?_
 iterate 2 (refine ag rfl fun K0 aa => ?_; simp only [zE, op1, ev, lkp, am, ak, cR, aA, reduceCtorEq, J, E, U, Z, V, Y, Tryd.st47, Tryd.td3, Tryd.td47, Mly.av]; (repeat refine And.intro (by first | omega | assumption | exact rfl) ?_); refine aa _ ?_; clear aa K0; simp only [put, app, af, aj, zE, zS, E])
 refine ao ?_
 refine hK1 _ ?_; clear hK1; refine ai [0, 1, 2] ?_; simp only [ad, lkp, zE, reduceCtorEq, J, ae, E]
 refine ah fun K2 hK2 => ?_
 refine ah fun K3 hK3 => ?_
 refine aq hP hN rfl ?_
 iterate 3 (refine ag rfl fun K0 aa => ?_; simp only [zE, op1, ev, lkp, am, ak, ax, aE, Nat.mul_one, aC, aD, acs, Ty.dflt, zG, az, aG, aH, aI, ay, aF, aS, reduceCtorEq, J, E, U, Z, V, Y, Tryd.st47, Tryd.td3, Tryd.td4, Tryd.td47, Mly.av]; (repeat refine And.intro (by first | omega | assumption | exact rfl) ?_); refine aa _ ?_; clear aa K0; simp only [put, app, af, aj, zE, zS, E])
 (refine ag rfl fun K0 aa => ?_; simp only [zE, op1, ev, lkp, am, ak, ev, reduceCtorEq, J, E, U, Z, V, Y, Tryd.td4, Mly.av]; refine aa _ ?_; clear aa K0; simp only [put, app, af, aj, zE, zS, E])
 refine' aZ (want := false) 3 rfl (m := 8) (by simp only [ad, lkp, zE, reduceCtorEq, J, ae, E]; exact rfl) (by kernel_rfl) rfl rfl rfl rfl rfl (fun hg4 => ?a4) ?b4 ?c4
 case a4 =>
  have hq4 := hg4; (try simp only [zB, reduceCtorEq] at hg4); simp only [List.take_succ_cons, List.take_zero, List.cons_append, List.nil_append]
  (refine aB rfl fun K0 aa => ?_; simp only [zE, op1, ev, lkp, am, ak, ax, reduceCtorEq, J, E, U, Z, V, Y, Tryd.st47, Tryd.td47, Mly.av]; (repeat refine And.intro (by first | omega | assumption | exact rfl) ?_); refine aa _ ?_; clear aa K0; simp only [put, app, af, aj, zE, zS, E])
  (refine aB rfl fun K0 aa => ?_; simp only [zE, op1, ev, lkp, am, ak, aE, Nat.mul_one, aC, aD, acs, Ty.dflt, zG, az, reduceCtorEq, J, E, U, Z, V, Y, Tryd.td3, Mly.av]; (repeat refine And.intro (by first | omega | assumption | exact rfl) ?_); refine aa _ ?_; clear aa K0; simp only [put, app, af, aj, zE, zS, E])
  (refine aB rfl fun K0 aa => ?_; simp only [zE, op1, ev, lkp, am, ak, aG, aH, aI, ay, aF, aS, reduceCtorEq, J, E, U, Z, V, Y, Tryd.td3, Tryd.td4, Mly.av]; (repeat refine And.intro (by first | omega | assumption | exact rfl) ?_); refine aa _ ?_; clear aa K0; simp only [put, app, af, aj, zE, zS, E])
  (refine ag rfl fun K0 aa => ?_; simp only [zE, op1, ev, lkp, am, ak, bB, reduceCtorEq, J, E, U, Z, V, Y, Tryd.td4, Mly.av]; refine aa _ ?_; clear aa K0; simp only [put, app, af, aj, zE, zS, E])
  refine ao ?_
  refine ⟨by simp only [ad, lkp, zE, reduceCtorEq, J, ae, E]; exact rfl, rfl, ?_, rfl⟩; (repeat refine b8 rfl ?_); exact bG (by exact rfl) hq4
 case b4 => exact bD (by first | rfl | (simp [cf]; done) | decide)
 simp only [bp, bg]
 refine ao ?_
 refine hK3 _ ?_; clear hK3; refine ai [0, 1, 2, 12] ?_; simp only [ad, lkp, zE, reduceCtorEq, J, ae, E]
 refine aJ (by simp only [ev, ad, lkp, zE, reduceCtorEq, J, ae, E]; exact rfl) (fun hc5 => ?_) (fun hc5 => ?_)
 ·(try simp only [zB, reduceCtorEq] at hc5)
  refine ah fun K6 hK6 => ?_
  refine aq hP hN rfl ?_
  (refine ag rfl fun K0 aa => ?_; simp only [zE, op1, ev, lkp, am, ak, ev, reduceCtorEq, J, E, U, Z, V, Y, Tryd.td3, Mly.av]; refine aa _ ?_; clear aa K0; simp only [put, app, af, aj, zE, zS, E])
  refine ao ?_
  refine hK6 _ ?_; clear hK6; refine ai [0, 1, 2, 12] ?_; simp only [ad, lkp, zE, reduceCtorEq, J, ae, E]
  refine aQ ?_
  refine ⟨by first | exact .inl rfl | exact .inr rfl, _, rfl, ?_⟩; simp only [fzV, fz1, fzC, List.map_cons, List.map_nil, ad, lkp, zE, reduceCtorEq, J, ae, E, Mly.av]
  refine VLE.of_eq ?_
  refine congrArg (fun n => AV.one (AC.int IntKind.i64 n)) ?_
  symm
  unfold bU
  first
  | (rw [if_pos (by omega)]; done)
  | (rw [if_neg (by omega), if_pos (by omega)]; done)
  | (rw [if_neg (by omega), if_neg (by omega), if_pos (by omega)]; done)
  | (rw [if_neg (by omega), if_neg (by omega), if_neg (by omega), if_pos (by omega)]; done)
  | (rw [if_neg (by omega), if_neg (by omega), if_neg (by omega), if_neg (by omega), if_pos (by omega)]; done)
  | (rw [if_neg (by omega), if_neg (by omega), if_neg (by omega), if_neg (by omega), if_neg (by omega)]
     first
     | exact bh hrows (by omega) (by assumption)
     | exact bH fun i hi => hrows i (by omega))
 ·(try simp only [zB, reduceCtorEq] at hc5)
  refine aM ?_
  refine hK2 _ ?_; clear hK2; refine ai [0, 1, 2, 12] ?_; simp only [ad, lkp, zE, reduceCtorEq, J, ae, E]
  refine ah fun K7 hK7 => ?_
  refine ah fun K8 hK8 => ?_
  refine aq hP hN rfl ?_
  iterate 4 (refine ag rfl fun K0 aa => ?_; simp only [zE, op1, ev, lkp, am, ak, ax, aE, Nat.mul_one, aC, aD, acs, Ty.dflt, zG, az, aK, bK, br, bj, bl, bJ, Nat.div_one, aP, bm, Ty.size, aL, dite_true, aG, aH, aI, ay, aF, aS, reduceCtorEq, J, E, U, Z, V, Y, Tryd.el22, Tryd.st47, Tryd.td2, Tryd.td22, Tryd.td3, Tryd.td4, Tryd.td47, Mly.av]; (repeat refine And.intro (by first | omega | assumption | exact rfl) ?_); (first | refine aa _ ?_ | refine Or.inl (aa _ ?_)); clear aa K0; simp only [put, app, af, aj, zE, zS, E])
  refine ao ?_
  refine hK8 _ ?_; clear hK8; refine ai [0, 1, 2, 12, 16] ?_; simp only [ad, lkp, zE, reduceCtorEq, J, ae, E]
  refine aJ (by simp only [ev, ad, lkp, zE, reduceCtorEq, J, ae, E]; exact rfl) (fun hc9 => ?_) (fun hc9 => ?_)
  ·(try simp only [zB, reduceCtorEq] at hc9)
   refine ah fun K10 hK10 => ?_
   refine aq hP hN rfl ?_
   (refine ag rfl fun K0 aa => ?_; simp only [zE, op1, ev, lkp, am, ak, ev, reduceCtorEq, J, E, U, Z, V, Y, Tryd.td3, Mly.av]; refine aa _ ?_; clear aa K0; simp only [put, app, af, aj, zE, zS, E])
   refine ao ?_
   refine hK10 _ ?_; clear hK10; refine ai [0, 1, 2, 12, 16] ?_; simp only [ad, lkp, zE, reduceCtorEq, J, ae, E]
   refine aQ ?_
   refine ⟨by first | exact .inl rfl | exact .inr rfl, _, rfl, ?_⟩; simp only [fzV, fz1, fzC, List.map_cons, List.map_nil, ad, lkp, zE, reduceCtorEq, J, ae, E, Mly.av]
   refine VLE.of_eq ?_
   refine congrArg (fun n => AV.one (AC.int IntKind.i64 n)) ?_
   symm
   unfold bU
   first
   | (rw [if_pos (by omega)]; done)
   | (rw [if_neg (by omega), if_pos (by omega)]; done)
   | (rw [if_neg (by omega), if_neg (by omega), if_pos (by omega)]; done)
   | (rw [if_neg (by omega), if_neg (by omega), if_neg (by omega), if_pos (by omega)]; done)
   | (rw [if_neg (by omega), if_neg (by omega), if_neg (by omega), if_neg (by omega), if_pos (by omega)]; done)
   | (rw [if_neg (by omega), if_neg (by omega), if_neg (by omega), if_neg (by omega), if_neg (by omega)]
      first
      | exact bh hrows (by omega) (by assumption)
      | exact bH fun i hi => hrows i (by omega))
  ·(try simp only [zB, reduceCtorEq] at hc9)
   refine aM ?_
   refine hK7 _ ?_; clear hK7; refine ai [0, 1, 2, 12, 16] ?_; simp only [ad, lkp, zE, reduceCtorEq, J, ae, E]
   refine ah fun K11 hK11 => ?_
   refine ah fun K12 hK12 => ?_
   refine aq hP hN rfl ?_
   iterate 4 (refine ag rfl fun K0 aa => ?_; simp only [zE, op1, ev, lkp, am, ak, ax, aE, Nat.mul_one, aC, aD, acs, Ty.dflt, zG, az, aK, bK, br, bj, bl, bJ, Nat.div_one, aP, bm, Ty.size, aL, dite_true, aG, aH, aI, ay, aF, aS, reduceCtorEq, J, E, U, Z, V, Y, Tryd.el22, Tryd.st47, Tryd.td2, Tryd.td22, Tryd.td3, Tryd.td4, Tryd.td47, Mly.av]; (repeat refine And.intro (by first | omega | assumption | exact rfl) ?_); (first | refine aa _ ?_ | refine Or.inl (aa _ ?_)); clear aa K0; simp only [put, app, af, aj, zE, zS, E])
   refine ao ?_
   refine hK12 _ ?_; clear hK12; refine ai [0, 1, 2, 12, 16, 20] ?_; simp only [ad, lkp, zE, reduceCtorEq, J, ae, E]
   refine aJ (by simp only [ev, ad, lkp, zE, reduceCtorEq, J, ae, E]; exact rfl) (fun hc13 => ?_) (fun hc13 => ?_)
   ·(try simp only [zB, reduceCtorEq] at hc13)
    refine ah fun K14 hK14 => ?_
    refine aq hP hN rfl ?_
    (refine ag rfl fun K0 aa => ?_; simp only [zE, op1, ev, lkp, am, ak, ev, reduceCtorEq, J, E, U, Z, V, Y, Tryd.td3, Mly.av]; refine aa _ ?_; clear aa K0; simp only [put, app, af, aj, zE, zS, E])
    refine ao ?_
    refine hK14 _ ?_; clear hK14; refine ai [0, 1, 2, 12, 16, 20] ?_; simp only [ad, lkp, zE, reduceCtorEq, J, ae, E]
    refine aQ ?_
    refine ⟨by first | exact .inl rfl | exact .inr rfl, _, rfl, ?_⟩; simp only [fzV, fz1, fzC, List.map_cons, List.map_nil, ad, lkp, zE, reduceCtorEq, J, ae, E, Mly.av]
    refine VLE.of_eq ?_
    refine congrArg (fun n => AV.one (AC.int IntKind.i64 n)) ?_
    symm
    unfold bU
    first
    | (rw [if_pos (by omega)]; done)
    | (rw [if_neg (by omega), if_pos (by omega)]; done)
    | (rw [if_neg (by omega), if_neg (by omega), if_pos (by omega)]; done)
    | (rw [if_neg (by omega), if_neg (by omega), if_neg (by omega), if_pos (by omega)]; done)
    | (rw [if_neg (by omega), if_neg (by omega), if_neg (by omega), if_neg (by omega), if_pos (by omega)]; done)
    | (rw [if_neg (by omega), if_neg (by omega), if_neg (by omega), if_neg (by omega), if_neg (by omega)]
       first
       | exact bh hrows (by omega) (by assumption)
       | exact bH fun i hi => hrows i (by omega))
   ·(try simp only [zB, reduceCtorEq] at hc13)
    refine aM ?_
    refine hK11 _ ?_; clear hK11; refine ai [0, 1, 2, 12, 16, 20] ?_; simp only [ad, lkp, zE, reduceCtorEq, J, ae, E]
    refine ah fun K15 hK15 => ?_
    refine ah fun K16 hK16 => ?_
    refine aq hP hN rfl ?_
    iterate 3 (refine ag rfl fun K0 aa => ?_; simp only [zE, op1, ev, lkp, am, ak, ax, aE, Nat.mul_one, aC, aD, acs, Ty.dflt, zG, az, aG, aH, aI, ay, aF, aS, reduceCtorEq, J, E, U, Z, V, Y, Tryd.st47, Tryd.td1, Tryd.td3, Tryd.td4, Tryd.td47, Mly.av]; (repeat refine And.intro (by first | omega | assumption | exact rfl) ?_); refine aa _ ?_; clear aa K0; simp only [put, app, af, aj, zE, zS, E])
    (refine ag rfl fun K0 aa => ?_; simp only [zE, op1, ev, lkp, am, ak, ev, reduceCtorEq, J, E, U, Z, V, Y, Tryd.td4, Mly.av]; refine aa _ ?_; clear aa K0; simp only [put, app, af, aj, zE, zS, E])
    refine' aZ (want := false) 6 rfl (m := 24) (by simp only [ad, lkp, zE, reduceCtorEq, J, ae, E]; exact rfl) (by kernel_rfl) rfl rfl rfl rfl rfl (fun hg17 => ?a17) ?b17 ?c17
    case a17 =>
     have hq17 := hg17; (try simp only [zB, reduceCtorEq] at hg17); simp only [List.take_succ_cons, List.take_zero, List.cons_append, List.nil_append]
     (refine aB rfl fun K0 aa => ?_; simp only [zE, op1, ev, lkp, am, ak, ax, reduceCtorEq, J, E, U, Z, V, Y, Tryd.st47, Tryd.td1, Tryd.td47, Mly.av]; (repeat refine And.intro (by first | omega | assumption | exact rfl) ?_); refine aa _ ?_; clear aa K0; simp only [put, app, af, aj, zE, zS, E])
     (refine aB rfl fun K0 aa => ?_; simp only [zE, op1, ev, lkp, am, ak, aE, Nat.mul_one, aC, aD, acs, Ty.dflt, zG, az, reduceCtorEq, J, E, U, Z, V, Y, Tryd.td3, Mly.av]; (repeat refine And.intro (by first | omega | assumption | exact rfl) ?_); refine aa _ ?_; clear aa K0; simp only [put, app, af, aj, zE, zS, E])
     (refine aB rfl fun K0 aa => ?_; simp only [zE, op1, ev, lkp, am, ak, ax, reduceCtorEq, J, E, U, Z, V, Y, Tryd.st47, Tryd.td2, Tryd.td47, Mly.av]; (repeat refine And.intro (by first | omega | assumption | exact rfl) ?_); refine aa _ ?_; clear aa K0; simp only [put, app, af, aj, zE, zS, E])
     (refine aB rfl fun K0 aa => ?_; simp only [zE, op1, ev, lkp, am, ak, aE, Nat.mul_one, aC, aD, acs, Ty.dflt, zG, az, reduceCtorEq, J, E, U, Z, V, Y, Tryd.el22, Tryd.td22, Mly.av]; (repeat refine And.intro (by first | omega | assumption | exact rfl) ?_); refine aa _ ?_; clear aa K0; simp only [put, app, af, aj, zE, zS, E])
     (refine aB rfl fun K0 aa => ?_; simp only [zE, op1, ev, lkp, am, ak, aK, bK, br, bj, bl, bJ, Nat.div_one, aP, bm, Ty.size, aL, dite_true, reduceCtorEq, J, E, U, Z, V, Y, Tryd.el22, Tryd.td22, Tryd.td3, Mly.av]; (repeat refine And.intro (by first | omega | assumption | exact rfl) ?_); (first | refine aa _ ?_ | refine Or.inl (aa _ ?_)); clear aa K0; simp only [put, app, af, aj, zE, zS, E])
     (refine aB rfl fun K0 aa => ?_; simp only [zE, op1, ev, lkp, am, ak, aG, aH, aI, ay, aF, aS, reduceCtorEq, J, E, U, Z, V, Y, Tryd.td3, Tryd.td4, Mly.av]; (repeat refine And.intro (by first | omega | assumption | exact rfl) ?_); refine aa _ ?_; clear aa K0; simp only [put, app, af, aj, zE, zS, E])
     (refine ag rfl fun K0 aa => ?_; simp only [zE, op1, ev, lkp, am, ak, bB, reduceCtorEq, J, E, U, Z, V, Y, Tryd.td4, Mly.av]; refine aa _ ?_; clear aa K0; simp only [put, app, af, aj, zE, zS, E])
     refine ao ?_
     refine ⟨by simp only [ad, lkp, zE, reduceCtorEq, J, ae, E]; exact rfl, rfl, ?_, rfl⟩; (repeat refine b8 rfl ?_); exact bG (by exact rfl) hq17
    case b17 => exact bD (by first | rfl | (simp [cf]; done) | decide)
    simp only [bp, bg]
    refine ao ?_
    refine hK16 _ ?_; clear hK16; refine ai [0, 1, 2, 12, 16, 20, 31] ?_; simp only [ad, lkp, zE, reduceCtorEq, J, ae, E]
    refine aJ (by simp only [ev, ad, lkp, zE, reduceCtorEq, J, ae, E]; exact rfl) (fun hc18 => ?_) (fun hc18 => ?_)
    ·(try simp only [zB, reduceCtorEq] at hc18)
     refine ah fun K19 hK19 => ?_
     refine aq hP hN rfl ?_
     (refine ag rfl fun K0 aa => ?_; simp only [zE, op1, ev, lkp, am, ak, ev, reduceCtorEq, J, E, U, Z, V, Y, Tryd.td3, Mly.av]; refine aa _ ?_; clear aa K0; simp only [put, app, af, aj, zE, zS, E])
     refine ao ?_
     refine hK19 _ ?_; clear hK19; refine ai [0, 1, 2, 12, 16, 20, 31] ?_; simp only [ad, lkp, zE, reduceCtorEq, J, ae, E]
     refine aQ ?_
     refine ⟨by first | exact .inl rfl | exact .inr rfl, _, rfl, ?_⟩; simp only [fzV, fz1, fzC, List.map_cons, List.map_nil, ad, lkp, zE, reduceCtorEq, J, ae, E, Mly.av]
     refine VLE.of_eq ?_
     refine congrArg (fun n => AV.one (AC.int IntKind.i64 n)) ?_
     symm
     unfold bU
     first
     | (rw [if_pos (by omega)]; done)
     | (rw [if_neg (by omega), if_pos (by omega)]; done)
     | (rw [if_neg (by omega), if_neg (by omega), if_pos (by omega)]; done)
     | (rw [if_neg (by omega), if_neg (by omega), if_neg (by omega), if_pos (by omega)]; done)
     | (rw [if_neg (by omega), if_neg (by omega), if_neg (by omega), if_neg (by omega), if_pos (by omega)]; done)
     | (rw [if_neg (by omega), if_neg (by omega), if_neg (by omega), if_neg (by omega), if_neg (by omega)]
        first
        | exact bh hrows (by omega) (by assumption)
        | exact bH fun i hi => hrows i (by omega))
    ·(try simp only [zB, reduceCtorEq] at hc18)
     refine aM ?_
     refine hK15 _ ?_; clear hK15; refine ai [0, 1, 2, 12, 16, 20, 31] ?_; simp only [ad, lkp, zE, reduceCtorEq, J, ae, E]
     refine ah fun K20 hK20 => ?_
     refine ah fun K21 hK21 => ?_
     refine aq hP hN rfl ?_
     iterate 7 (refine ag rfl fun K0 aa => ?_; simp only [zE, op1, ev, lkp, am, ak, ax, aE, Nat.mul_one, aC, aD, acs, Ty.dflt, zG, az, aK, bK, br, bj, bl, bJ, Nat.div_one, aP, bm, Ty.size, aL, dite_true, aG, aH, aI, ay, aF, aS, reduceCtorEq, J, E, U, Z, V, Y, Tryd.el22, Tryd.st47, Tryd.td2, Tryd.td22, Tryd.td3, Tryd.td4, Tryd.td47, Mly.av]; (repeat refine And.intro (by first | omega | assumption | exact rfl) ?_); (first | refine aa _ ?_ | refine Or.inl (aa _ ?_)); clear aa K0; simp only [put, app, af, aj, zE, zS, E])
     refine ao ?_
     refine hK21 _ ?_; clear hK21; refine ai [0, 1, 2, 12, 16, 20, 31, 38] ?_; simp only [ad, lkp, zE, reduceCtorEq, J, ae, E]
     refine aJ (by simp only [ev, ad, lkp, zE, reduceCtorEq, J, ae, E]; exact rfl) (fun hc22 => ?_) (fun hc22 => ?_)
     ·(try simp only [zB, reduceCtorEq] at hc22)
      refine ah fun K23 hK23 => ?_
      refine aq hP hN rfl ?_
      (refine ag rfl fun K0 aa => ?_; simp only [zE, op1, ev, lkp, am, ak, ev, reduceCtorEq, J, E, U, Z, V, Y, Tryd.td3, Mly.av]; refine aa _ ?_; clear aa K0; simp only [put, app, af, aj, zE, zS, E])
      refine ao ?_
      refine hK23 _ ?_; clear hK23; refine ai [0, 1, 2, 12, 16, 20, 31, 38] ?_; simp only [ad, lkp, zE, reduceCtorEq, J, ae, E]
      refine aQ ?_
      refine ⟨by first | exact .inl rfl | exact .inr rfl, _, rfl, ?_⟩; simp only [fzV, fz1, fzC, List.map_cons, List.map_nil, ad, lkp, zE, reduceCtorEq, J, ae, E, Mly.av]
      refine VLE.of_eq ?_
      refine congrArg (fun n => AV.one (AC.int IntKind.i64 n)) ?_
      symm
      unfold bU
      first
      | (rw [if_pos (by omega)]; done)
      | (rw [if_neg (by omega), if_pos (by omega)]; done)
      | (rw [if_neg (by omega), if_neg (by omega), if_pos (by omega)]; done)
      | (rw [if_neg (by omega), if_neg (by omega), if_neg (by omega), if_pos (by omega)]; done)
      | (rw [if_neg (by omega), if_neg (by omega), if_neg (by omega), if_neg (by omega), if_pos (by omega)]; done)
      | (rw [if_neg (by omega), if_neg (by omega), if_neg (by omega), if_neg (by omega), if_neg (by omega)]
         first
         | exact bh hrows (by omega) (by assumption)
         | exact bH fun i hi => hrows i (by omega))
     ·(try simp only [zB, reduceCtorEq] at hc22)
      refine aM ?_
      refine hK20 _ ?_; clear hK20; refine ai [0, 1, 2, 12, 16, 20, 31, 38] ?_; simp only [ad, lkp, zE, reduceCtorEq, J, ae, E]
      refine ah fun K24 hK24 => ?_
      refine ah fun K25 hK25 => ?_
      refine aq hP hN rfl ?_
      (refine ag rfl fun K0 aa => ?_; simp only [zE, op1, ev, lkp, am, ak, ev, reduceCtorEq, J, E, U, Z, V, Y, Tryd.td3, Mly.av]; refine aa _ ?_; clear aa K0; simp only [put, app, af, aj, zE, zS, E])
      refine ao ?_
      refine hK25 _ ?_; clear hK25; refine ai [0, 1, 2, 3, 12, 16, 20, 31, 38] ?_; simp only [ad, lkp, zE, reduceCtorEq, J, ae, E]
      refine aY ?_
      refine c8 (fun n26 s26 => ∃ (k : Nat), (k ≤ m.nx.length) ∧ (∀ i, i < k → eR m i = 0) ∧ n26 = m.nx.length - k ∧ s26 = { env := [(1, .one (.ptr 0 0 0 0)), (3, .one (.int .i64 (k : Int)))], L := [.vars 47 [.int .i64 m.inp, .int .i64 m.st, .list (.list (.int .i64)) m.nx, .list (.list (.int .i64)) m.ot]] }) ?_ ?_
      ·exact ⟨_, _, ba [1, 3], 0, Nat.zero_le _, fun i hi => by omega, rfl, rfl⟩
      ·rintro n26 s26 ⟨k, hk, hrows, rfl, rfl⟩
       refine ah fun K27 hK27 => ?_
       refine ah fun K28 hK28 => ?_
       refine aq hP hN rfl ?_
       iterate 5 (refine ag rfl fun K0 aa => ?_; simp only [zE, op1, ev, lkp, am, ak, ax, aE, Nat.mul_one, aC, aD, acs, Ty.dflt, zG, az, aK, bK, br, bj, bl, bJ, Nat.div_one, aP, bm, Ty.size, aL, dite_true, aG, aH, aI, ay, aF, aS, reduceCtorEq, J, E, U, Z, V, Y, Tryd.el22, Tryd.st47, Tryd.td2, Tryd.td22, Tryd.td3, Tryd.td4, Tryd.td47, Mly.av]; (repeat refine And.intro (by first | omega | assumption | exact rfl) ?_); (first | refine aa _ ?_ | refine Or.inl (aa _ ?_)); clear aa K0; simp only [put, app, af, aj, zE, zS, E])
       refine ao ?_
       refine hK28 _ ?_; clear hK28; refine ai [1, 3, 43] ?_; simp only [ad, lkp, zE, reduceCtorEq, J, ae, E]
       refine aJ (by simp only [ev, ad, lkp, zE, reduceCtorEq, J, ae, E]; exact rfl) (fun hc29 => ?_) (fun hc29 => ?_)
       ·(try simp only [zB, reduceCtorEq] at hc29)
        refine aM ?_
        refine hK27 _ ?_; clear hK27; refine ai [1, 3, 43] ?_; simp only [ad, lkp, zE, reduceCtorEq, J, ae, E]
        refine ah fun K30 hK30 => ?_
        refine aY ?_
        refine ah fun K31 hK31 => ?_
        refine aq hP hN rfl ?_
        iterate 2 (refine ag rfl fun K0 aa => ?_; simp only [zE, op1, ev, lkp, am, ak, aE, Nat.mul_one, aC, aD, acs, Ty.dflt, zG, az, reduceCtorEq, J, E, U, Z, V, Y, Tryd.st47, Tryd.td3, Tryd.td47, Mly.av]; (repeat refine And.intro (by first | omega | assumption | exact rfl) ?_); refine aa _ ?_; clear aa K0; simp only [put, app, af, aj, zE, zS, E])
        refine ag rfl fun K0 aa => ?_
        refine b9 (h := aR (rI m k (by omega) (by omega) (by omega))) rfl rfl (by first | exact rfl | (simp only [ev, ad, lkp, zE, reduceCtorEq, J, ae, E]; exact rfl)) (by simp only [zE, zG, op1, ev, lkp, am, ak, aA, acs, bq, mv1, mvC, Ty.dflt, reduceCtorEq, J, E, U, Z, V, Y, Mly.av]) ?_
        refine aa _ ?_; clear aa K0; simp only [put, app, af, aj, zE, zS, E]
        (refine ag rfl fun K0 aa => ?_; simp only [zE, op1, ev, lkp, am, ak, ev, reduceCtorEq, J, E, U, Z, V, Y, Tryd.td3, Mly.av]; refine aa _ ?_; clear aa K0; simp only [put, app, af, aj, zE, zS, E])
        refine ao ?_
        refine hK31 _ ?_; clear hK31; refine ai [1, 3, 4, 43] ?_; simp only [ad, lkp, zE, reduceCtorEq, J, ae, E]
        refine ah fun K32 hK32 => ?_
        refine aq hP hN rfl ?_
        iterate 2 (refine ag rfl fun K0 aa => ?_; simp only [zE, op1, ev, lkp, am, ak, aG, aH, aI, ay, aF, aS, reduceCtorEq, J, E, U, Z, V, Y, Tryd.td3, Tryd.td4, Mly.av]; (repeat refine And.intro (by first | omega | assumption | exact rfl) ?_); refine aa _ ?_; clear aa K0; simp only [put, app, af, aj, zE, zS, E])
        refine ao ?_
        refine hK32 _ ?_; clear hK32; refine ai [1, 3, 4, 43, 50] ?_; simp only [ad, lkp, zE, reduceCtorEq, J, ae, E]
        refine aJ (by simp only [ev, ad, lkp, zE, reduceCtorEq, J, ae, E]; exact rfl) (fun hc33 => ?_) (fun hc33 => ?_)
        ·(try simp only [zB, reduceCtorEq] at hc33)
         refine ah fun K34 hK34 => ?_
         refine aq hP hN rfl ?_
         iterate 2 (refine ag rfl fun K0 aa => ?_; simp only [zE, op1, ev, lkp, am, ak, ev, reduceCtorEq, J, E, U, Z, V, Y, Tryd.td3, Mly.av]; refine aa _ ?_; clear aa K0; simp only [put, app, af, aj, zE, zS, E])
         refine ao ?_
         refine hK34 _ ?_; clear hK34; refine ai [1, 2, 3, 4, 43, 50] ?_; simp only [ad, lkp, zE, reduceCtorEq, J, ae, E]
         refine aQ ?_
         refine ⟨by first | exact .inl rfl | exact .inr rfl, _, rfl, ?_⟩; simp only [fzV, fz1, fzC, List.map_cons, List.map_nil, ad, lkp, zE, reduceCtorEq, J, ae, E, Mly.av]
         refine VLE.of_eq ?_
         refine congrArg (fun n => AV.one (AC.int IntKind.i64 n)) ?_
         symm
         unfold bU
         first
         | (rw [if_pos (by omega)]; done)
         | (rw [if_neg (by omega), if_pos (by omega)]; done)
         | (rw [if_neg (by omega), if_neg (by omega), if_pos (by omega)]; done)
         | (rw [if_neg (by omega), if_neg (by omega), if_neg (by omega), if_pos (by omega)]; done)
         | (rw [if_neg (by omega), if_neg (by omega), if_neg (by omega), if_neg (by omega), if_pos (by omega)]; done)
         | (rw [if_neg (by omega), if_neg (by omega), if_neg (by omega), if_neg (by omega), if_neg (by omega)]
            first
            | exact bh hrows (by omega) (by assumption)
            | exact bH fun i hi => hrows i (by omega))
        ·(try simp only [zB, reduceCtorEq] at hc33)
         refine aM ?_
         refine hK30 _ ?_; clear hK30; refine ai [1, 3, 4, 43, 50] ?_; simp only [ad, lkp, zE, reduceCtorEq, J, ae, E]
         refine aq hP hN rfl ?_
         iterate 3 (refine ag rfl fun K0 aa => ?_; simp only [zE, op1, ev, lkp, am, ak, aG, aH, aI, ay, aF, aS, reduceCtorEq, J, E, U, Z, V, Y, Tryd.td3, Mly.av]; (repeat refine And.intro (by first | omega | assumption | exact rfl) ?_); refine aa _ ?_; clear aa K0; simp only [put, app, af, aj, zE, zS, E])
         refine ao ?_
         refine ⟨_, _, ?_, ba [1, 3], k + 1, by omega, fun i hi => ?_, rfl, rfl⟩
         · omega
         · by_cases e : i = k
           · rw [e]; first | assumption | omega
           · exact hrows i (by omega)
       ·(try simp only [zB, reduceCtorEq] at hc29)
        refine bZ ?_
        refine hK24 _ ?_; clear hK24; refine ai [1, 3, 43] ?_; simp only [ad, lkp, zE, reduceCtorEq, J, ae, E]
        refine ah fun K35 hK35 => ?_
        refine aq hP hN rfl ?_
        (refine ag rfl fun K0 aa => ?_; simp only [zE, op1, ev, lkp, am, ak, ev, reduceCtorEq, J, E, U, Z, V, Y, Tryd.td3, Mly.av]; refine aa _ ?_; clear aa K0; simp only [put, app, af, aj, zE, zS, E])
        refine ao ?_
        refine hK35 _ ?_; clear hK35; refine ai [1, 2, 3, 43] ?_; simp only [ad, lkp, zE, reduceCtorEq, J, ae, E]
        refine aQ ?_
        refine ⟨by first | exact .inl rfl | exact .inr rfl, _, rfl, ?_⟩; simp only [fzV, fz1, fzC, List.map_cons, List.map_nil, ad, lkp, zE, reduceCtorEq, J, ae, E, Mly.av]
        refine VLE.of_eq ?_
        refine congrArg (fun n => AV.one (AC.int IntKind.i64 n)) ?_
        symm
        unfold bU
        first
        | (rw [if_pos (by omega)]; done)
        | (rw [if_neg (by omega), if_pos (by omega)]; done)
        | (rw [if_neg (by omega), if_neg (by omega), if_pos (by omega)]; done)
        | (rw [if_neg (by omega), if_neg (by omega), if_neg (by omega), if_pos (by omega)]; done)
        | (rw [if_neg (by omega), if_neg (by omega), if_neg (by omega), if_neg (by omega), if_pos (by omega)]; done)
        | (rw [if_neg (by omega), if_neg (by omega), if_neg (by omega), if_neg (by omega), if_neg (by omega)]
           first
           | exact bh hrows (by omega) (by assumption)
           | exact bH fun i hi => hrows i (by omega))
end Go.Proofs.YtgmgnkmgofkfpaaDoor
namespace Go.Proofs.YtgmgnkmgofkfpaaDoor
open Go Go.AV
open Nat renaming reduceEqDiff → J, reduceAdd → E, reduceLeDiff → U, reduceLT → Z, reduceMul → V, reduceSub → Y
open List renaming set_cons_zero → aw, set_cons_succ → au
set_option maxRecDepth 100000 in
theorem ni (p : Mpr) : cp Tryd.prog 15 [p.av] (.one (.bool ((decide ((p.nx.length : Int) ≤ 10) && decide ((p.sy.length : Int) ≤ 10)) && decide (p.inp ≤ 6)))) := by
 refine bC Tryd.func15 rfl (by kernel_rfl) (Nat.le_of_ble_eq_true rfl) rfl fun C hP hN hB => ?_
 replace hN : C.N = 18 := hN
 simp only [ae, E]
 refine ah fun K1 hK1 => ?_
 refine aq hP hN rfl ?_
 iterate 2 (refine ag rfl fun K0 aa => ?_; simp only [zE, op1, ev, lkp, am, ak, cR, aA, reduceCtorEq, J, E, U, Z, V, Y, Tryd.st24, Tryd.td24, Tryd.td4, Mpr.av]; (repeat refine And.intro (by first | omega | assumption | exact rfl) ?_); refine aa _ ?_; clear aa K0; simp only [put, app, af, aj, zE, zS, E])
 refine ao ?_
 refine hK1 _ ?_; clear hK1; refine ai [0, 1, 2] ?_; simp only [ad, lkp, zE, reduceCtorEq, J, ae, E]
 refine ah fun K2 hK2 => ?_
 refine aq hP hN rfl ?_
 iterate 4 (refine ag rfl fun K0 aa => ?_; simp only [zE, op1, ev, lkp, am, ak, ax, aE, Nat.mul_one, aC, aD, acs, Ty.dflt, zG, az, aK, bK, br, bj, bl, bJ, Nat.div_one, aP, bm, Ty.size, aL, dite_true, aG, aH, aI, ay, aF, aS, reduceCtorEq, J, E, U, Z, V, Y, Tryd.el22, Tryd.st24, Tryd.td22, Tryd.td24, Tryd.td3, Tryd.td4, Mpr.av]; (repeat refine And.intro (by first | omega | assumption | exact rfl) ?_); (first | refine aa _ ?_ | refine Or.inl (aa _ ?_)); clear aa K0; simp only [put, app, af, aj, zE, zS, E])
 (refine ag rfl fun K0 aa => ?_; simp only [zE, op1, ev, lkp, am, ak, ev, reduceCtorEq, J, E, U, Z, V, Y, Tryd.td4, Mpr.av]; refine aa _ ?_; clear aa K0; simp only [put, app, af, aj, zE, zS, E])
 refine' aZ (want := true) 4 rfl (m := 7) (by simp only [ad, lkp, zE, reduceCtorEq, J, ae, E]; exact rfl) (by kernel_rfl) rfl rfl rfl rfl rfl (fun hg3 => ?a3) ?b3 ?c3
 case a3 =>
  have hq3 := hg3; (try simp only [zB, reduceCtorEq] at hg3); simp only [List.take_succ_cons, List.take_zero, List.cons_append, List.nil_append]
  (refine aB rfl fun K0 aa => ?_; simp only [zE, op1, ev, lkp, am, ak, ax, reduceCtorEq, J, E, U, Z, V, Y, Tryd.st24, Tryd.td24, Tryd.td4, Mpr.av]; (repeat refine And.intro (by first | omega | assumption | exact rfl) ?_); refine aa _ ?_; clear aa K0; simp only [put, app, af, aj, zE, zS, E])
  (refine aB rfl fun K0 aa => ?_; simp only [zE, op1, ev, lkp, am, ak, aE, Nat.mul_one, aC, aD, acs, Ty.dflt, zG, az, reduceCtorEq, J, E, U, Z, V, Y, Tryd.el22, Tryd.td22, Mpr.av]; (repeat refine And.intro (by first | omega | assumption | exact rfl) ?_); refine aa _ ?_; clear aa K0; simp only [put, app, af, aj, zE, zS, E])
  (refine aB rfl fun K0 aa => ?_; simp only [zE, op1, ev, lkp, am, ak, aK, bK, br, bj, bl, bJ, Nat.div_one, aP, bm, Ty.size, aL, dite_true, reduceCtorEq, J, E, U, Z, V, Y, Tryd.el22, Tryd.td22, Tryd.td3, Mpr.av]; (repeat refine And.intro (by first | omega | assumption | exact rfl) ?_); (first | refine aa _ ?_ | refine Or.inl (aa _ ?_)); clear aa K0; simp only [put, app, af, aj, zE, zS, E])
  (refine aB rfl fun K0 aa => ?_; simp only [zE, op1, ev, lkp, am, ak, aG, aH, aI, ay, aF, aS, reduceCtorEq, J, E, U, Z, V, Y, Tryd.td3, Tryd.td4, Mpr.av]; (repeat refine And.intro (by first | omega | assumption | exact rfl) ?_); refine aa _ ?_; clear aa K0; simp only [put, app, af, aj, zE, zS, E])
  (refine ag rfl fun K0 aa => ?_; simp only [zE, op1, ev, lkp, am, ak, bB, reduceCtorEq, J, E, U, Z, V, Y, Tryd.td4, Mpr.av]; refine aa _ ?_; clear aa K0; simp only [put, app, af, aj, zE, zS, E])
  refine ao ?_
  refine ⟨by simp only [ad, lkp, zE, reduceCtorEq, J, ae, E]; exact rfl, rfl, ?_, rfl⟩; (repeat refine b8 rfl ?_); exact bG (by exact rfl) hq3
 case b3 => exact bD (by first | rfl | (simp [cf]; done) | decide)
 simp only [bp, bg]
 (refine ag rfl fun K0 aa => ?_; simp only [zE, op1, ev, lkp, am, ak, ev, reduceCtorEq, J, E, U, Z, V, Y, Tryd.td4, Mpr.av]; refine aa _ ?_; clear aa K0; simp only [put, app, af, aj, zE, zS, E])
 refine' aZ (want := true) 3 rfl (m := 13) (by simp only [ad, lkp, zE, reduceCtorEq, J, ae, E]; exact rfl) (by kernel_rfl) rfl rfl rfl rfl rfl (fun hg4 => ?a4) ?b4 ?c4
 case a4 =>
  have hq4 := hg4; (try simp only [zB, reduceCtorEq] at hg4); simp only [List.take_succ_cons, List.take_zero, List.cons_append, List.nil_append]
  (refine aB rfl fun K0 aa => ?_; simp only [zE, op1, ev, lkp, am, ak, ax, reduceCtorEq, J, E, U, Z, V, Y, Tryd.st24, Tryd.td24, Mpr.av]; (repeat refine And.intro (by first | omega | assumption | exact rfl) ?_); refine aa _ ?_; clear aa K0; simp only [put, app, af, aj, zE, zS, E])
  (refine aB rfl fun K0 aa => ?_; simp only [zE, op1, ev, lkp, am, ak, aE, Nat.mul_one, aC, aD, acs, Ty.dflt, zG, az, reduceCtorEq, J, E, U, Z, V, Y, Tryd.td3, Mpr.av]; (repeat refine And.intro (by first | omega | assumption | exact rfl) ?_); refine aa _ ?_; clear aa K0; simp only [put, app, af, aj, zE, zS, E])
  (refine aB rfl fun K0 aa => ?_; simp only [zE, op1, ev, lkp, am, ak, aG, aH, aI, ay, aF, aS, reduceCtorEq, J, E, U, Z, V, Y, Tryd.td3, Tryd.td4, Mpr.av]; (repeat refine And.intro (by first | omega | assumption | exact rfl) ?_); refine aa _ ?_; clear aa K0; simp only [put, app, af, aj, zE, zS, E])
  (refine ag rfl fun K0 aa => ?_; simp only [zE, op1, ev, lkp, am, ak, bB, reduceCtorEq, J, E, U, Z, V, Y, Tryd.td4, Mpr.av]; refine aa _ ?_; clear aa K0; simp only [put, app, af, aj, zE, zS, E])
  refine ao ?_
  refine ⟨by simp only [ad, lkp, zE, reduceCtorEq, J, ae, E]; exact rfl, rfl, ?_, rfl⟩; (repeat refine b8 rfl ?_); exact bG (by exact rfl) hq4
 case b4 => exact bD (by first | rfl | (simp [cf]; done) | decide)
 simp only [bp, bg]
 (refine ag rfl fun K0 aa => ?_; simp only [zE, op1, ev, lkp, am, ak, ev, reduceCtorEq, J, E, U, Z, V, Y, Tryd.td4, Mpr.av]; refine aa _ ?_; clear aa K0; simp only [put, app, af, aj, zE, zS, E])
 refine ao ?_
 refine hK2 _ ?_; clear hK2; refine ai [0, 1, 2] ?_; simp only [ad, lkp, zE, reduceCtorEq, J, ae, E]
 refine aQ ?_
 refine ⟨by first | exact .inl rfl | exact .inr rfl, _, rfl, ?_⟩; simp only [fzV, fz1, fzC, List.map_cons, List.map_nil, ad, lkp, zE, reduceCtorEq, J, ae, E, Mpr.av]
 refine VLE.of_eq ?_
 rfl
end Go.Proofs.YtgmgnkmgofkfpaaDoor
namespace Go.Proofs.YtgmgnkmgofkfpaaDoor
open Go Go.AV
open Nat renaming reduceEqDiff → J, reduceAdd → E, reduceLeDiff → U, reduceLT → Z, reduceMul → V, reduceSub → Y
open List renaming set_cons_zero → aw, set_cons_succ → au
set_option maxRecDepth 100000 in
theorem pS (m : Mly) : cp Tryd.prog 21 [m.av] (.one (.bool ((decide ((m.nx.length : Int) ≤ 12) && decide ((m.ot.length : Int) ≤ 12)) && decide (m.inp ≤ 4)))) := by
 refine bC Tryd.func21 rfl (by kernel_rfl) (Nat.le_of_ble_eq_true rfl) rfl fun C hP hN hB => ?_
 replace hN : C.N = 18 := hN
 simp only [ae, E]
 refine ah fun K1 hK1 => ?_
 refine aq hP hN rfl ?_
 iterate 2 (refine ag rfl fun K0 aa => ?_; simp only [zE, op1, ev, lkp, am, ak, cR, aA, reduceCtorEq, J, E, U, Z, V, Y, Tryd.st47, Tryd.td4, Tryd.td47, Mly.av]; (repeat refine And.intro (by first | omega | assumption | exact rfl) ?_); refine aa _ ?_; clear aa K0; simp only [put, app, af, aj, zE, zS, E])
 refine ao ?_
 refine hK1 _ ?_; clear hK1; refine ai [0, 1, 2] ?_; simp only [ad, lkp, zE, reduceCtorEq, J, ae, E]
 refine ah fun K2 hK2 => ?_
 refine aq hP hN rfl ?_
 iterate 4 (refine ag rfl fun K0 aa => ?_; simp only [zE, op1, ev, lkp, am, ak, ax, aE, Nat.mul_one, aC, aD, acs, Ty.dflt, zG, az, aK, bK, br, bj, bl, bJ, Nat.div_one, aP, bm, Ty.size, aL, dite_true, aG, aH, aI, ay, aF, aS, reduceCtorEq, J, E, U, Z, V, Y, Tryd.el22, Tryd.st47, Tryd.td2, Tryd.td22, Tryd.td3, Tryd.td4, Tryd.td47, Mly.av]; (repeat refine And.intro (by first | omega | assumption | exact rfl) ?_); (first | refine aa _ ?_ | refine Or.inl (aa _ ?_)); clear aa K0; simp only [put, app, af, aj, zE, zS, E])
 (refine ag rfl fun K0 aa => ?_; simp only [zE, op1, ev, lkp, am, ak, ev, reduceCtorEq, J, E, U, Z, V, Y, Tryd.td4, Mly.av]; refine aa _ ?_; clear aa K0; simp only [put, app, af, aj, zE, zS, E])
 refine' aZ (want := true) 4 rfl (m := 7) (by simp only [ad, lkp, zE, reduceCtorEq, J, ae, E]; exact rfl) (by kernel_rfl) rfl rfl rfl rfl rfl (fun hg3 => ?a3) ?b3 ?c3
 case a3 =>
  have hq3 := hg3; (try simp only [zB, reduceCtorEq] at hg3); simp only [List.take_succ_cons, List.take_zero, List.cons_append, List.nil_append]
  (refine aB rfl fun K0 aa => ?_; simp only [zE, op1, ev, lkp, am, ak, ax, reduceCtorEq, J, E, U, Z, V, Y, Tryd.st47, Tryd.td3, Tryd.td47, Mly.av]; (repeat refine And.intro (by first | omega | assumption | exact rfl) ?_); refine aa _ ?_; clear aa K0; simp only [put, app, af, aj, zE, zS, E])
  (refine aB rfl fun K0 aa => ?_; simp only [zE, op1, ev, lkp, am, ak, aE, Nat.mul_one, aC, aD, acs, Ty.dflt, zG, az, reduceCtorEq, J, E, U, Z, V, Y, Tryd.el22, Tryd.td22, Mly.av]; (repeat refine And.intro (by first | omega | assumption | exact rfl) ?_); refine aa _ ?_; clear aa K0; simp only [put, app, af, aj, zE, zS, E])
  (refine aB rfl fun K0 aa => ?_; simp only [zE, op1, ev, lkp, am, ak, aK, bK, br, bj, bl, bJ, Nat.div_one, aP, bm, Ty.size, aL, dite_true, reduceCtorEq, J, E, U, Z, V, Y, Tryd.el22, Tryd.td22, Tryd.td3, Mly.av]; (repeat refine And.intro (by first | omega | assumption | exact rfl) ?_); (first | refine aa _ ?_ | refine Or.inl (aa _ ?_)); clear aa K0; simp only [put, app, af, aj, zE, zS, E])
  (refine aB rfl fun K0 aa => ?_; simp only [zE, op1, ev, lkp, am, ak, aG, aH, aI, ay, aF, aS, reduceCtorEq, J, E, U, Z, V, Y, Tryd.td3, Tryd.td4, Mly.av]; (repeat refine And.intro (by first | omega | assumption | exact rfl) ?_); refine aa _ ?_; clear aa K0; simp only [put, app, af, aj, zE, zS, E])
  (refine ag rfl fun K0 aa => ?_; simp only [zE, op1, ev, lkp, am, ak, bB, reduceCtorEq, J, E, U, Z, V, Y, Tryd.td4, Mly.av]; refine aa _ ?_; clear aa K0; simp only [put, app, af, aj, zE, zS, E])
  refine ao ?_
  refine ⟨by simp only [ad, lkp, zE, reduceCtorEq, J, ae, E]; exact rfl, rfl, ?_, rfl⟩; (repeat refine b8 rfl ?_); exact bG (by exact rfl) hq3
 case b3 => exact bD (by first | rfl | (simp [cf]; done) | decide)
 simp only [bp, bg]
 (refine ag rfl fun K0 aa => ?_; simp only [zE, op1, ev, lkp, am, ak, ev, reduceCtorEq, J, E, U, Z, V, Y, Tryd.td4, Mly.av]; refine aa _ ?_; clear aa K0; simp only [put, app, af, aj, zE, zS, E])
 refine' aZ (want := true) 3 rfl (m := 13) (by simp only [ad, lkp, zE, reduceCtorEq, J, ae, E]; exact rfl) (by kernel_rfl) rfl rfl rfl rfl rfl (fun hg4 => ?a4) ?b4 ?c4
 case a4 =>
  have hq4 := hg4; (try simp only [zB, reduceCtorEq] at hg4); simp only [List.take_succ_cons, List.take_zero, List.cons_append, List.nil_append]
  (refine aB rfl fun K0 aa => ?_; simp only [zE, op1, ev, lkp, am, ak, ax, reduceCtorEq, J, E, U, Z, V, Y, Tryd.st47, Tryd.td47, Mly.av]; (repeat refine And.intro (by first | omega | assumption | exact rfl) ?_); refine aa _ ?_; clear aa K0; simp only [put, app, af, aj, zE, zS, E])
  (refine aB rfl fun K0 aa => ?_; simp only [zE, op1, ev, lkp, am, ak, aE, Nat.mul_one, aC, aD, acs, Ty.dflt, zG, az, reduceCtorEq, J, E, U, Z, V, Y, Tryd.td3, Mly.av]; (repeat refine And.intro (by first | omega | assumption | exact rfl) ?_); refine aa _ ?_; clear aa K0; simp only [put, app, af, aj, zE, zS, E])
  (refine aB rfl fun K0 aa => ?_; simp only [zE, op1, ev, lkp, am, ak, aG, aH, aI, ay, aF, aS, reduceCtorEq, J, E, U, Z, V, Y, Tryd.td3, Tryd.td4, Mly.av]; (repeat refine And.intro (by first | omega | assumption | exact rfl) ?_); refine aa _ ?_; clear aa K0; simp only [put, app, af, aj, zE, zS, E])
  (refine ag rfl fun K0 aa => ?_; simp only [zE, op1, ev, lkp, am, ak, bB, reduceCtorEq, J, E, U, Z, V, Y, Tryd.td4, Mly.av]; refine aa _ ?_; clear aa K0; simp only [put, app, af, aj, zE, zS, E])
  refine ao ?_
  refine ⟨by simp only [ad, lkp, zE, reduceCtorEq, J, ae, E]; exact rfl, rfl, ?_, rfl⟩; (repeat refine b8 rfl ?_); exact bG (by exact rfl) hq4
 case b4 => exact bD (by first | rfl | (simp [cf]; done) | decide)
 simp only [bp, bg]
 (refine ag rfl fun K0 aa => ?_; simp only [zE, op1, ev, lkp, am, ak, ev, reduceCtorEq, J, E, U, Z, V, Y, Tryd.td4, Mly.av]; refine aa _ ?_; clear aa K0; simp only [put, app, af, aj, zE, zS, E])
 refine ao ?_
 refine hK2 _ ?_; clear hK2; refine ai [0, 1, 2] ?_; simp only [ad, lkp, zE, reduceCtorEq, J, ae, E]
 refine aQ ?_
 refine ⟨by first | exact .inl rfl | exact .inr rfl, _, rfl, ?_⟩; simp only [fzV, fz1, fzC, List.map_cons, List.map_nil, ad, lkp, zE, reduceCtorEq, J, ae, E, Mly.av]
 refine VLE.of_eq ?_
 rfl
end Go.Proofs.YtgmgnkmgofkfpaaDoor
