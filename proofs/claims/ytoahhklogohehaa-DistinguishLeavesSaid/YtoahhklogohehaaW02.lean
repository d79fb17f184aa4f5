/- Contracts of functions of this seat, each out of a walk through its code, and plain facts on what they compute. Conditions: those that each theorem names. -/
import Derived.Test.YtoahhklogohehaaW01
set_option linter.unusedSimpArgs false
set_option linter.unusedVariables false
set_option maxRecDepth 100000
namespace Go.AV
open Nat renaming reduceEqDiff → aa, reduceAdd → V, reduceLeDiff → ad, reduceLT → ag, reduceMul → af, reduceSub → ae
open List renaming set_cons_zero → cK, set_cons_succ → cF, getD_cons_zero → au, length_append → ar, map_cons → aJ, cons_append → aN, map_nil → bz, length_cons → ax, nil_append → b6, take_succ_cons → d6, length_nil → aI, length_map → aw, length_replicate → aB, take_length → aO, mem_cons_self → aV, mem_cons_of_mem → aM
open Int renaming toNat_natCast → ai
/-plain-/
theorem vP : ∀ (xs : List Int) (a : Int), a ≤ xs.foldl max a ∧ ∀ x, x ∈ xs → x ≤ xs.foldl max a
  | [], a => ⟨Int.le_refl a, fun x h => by cases h⟩
  | y :: xs, a => by
    rw [List.foldl_cons]
    obtain ⟨h1, h2⟩ := vP xs (max a y)
    refine ⟨by omega, fun x hx => ?_⟩
    rcases List.mem_cons.1 hx with e | h
    · omega
    · exact h2 x h
def gr (m : Mly) : Int := m.ot.flatten.foldl max 0
theorem zy {m : Mly} (hm : MOK m) {s a : Int} (hs : 0 ≤ s ∧ s < m.nx.length) (ha : 0 ≤ a ∧ a < m.inp) : m.out s a ∈ m.ot.flatten := by
  have hol := hm.ol
  have h1 : s.toNat < m.ot.length := by omega
  have h2 := hm.ql s.toNat (by omega)
  rw [List.mem_flatten]
  refine ⟨m.ot.getD s.toNat [], by simp [List.getD, h1], br (by omega)⟩
theorem BG {m : Mly} (hm : MOK m) {s a : Int} (hs : 0 ≤ s ∧ s < m.nx.length) (ha : 0 ≤ a ∧ a < m.inp) : 0 ≤ m.out s a ∧ m.out s a ≤ gr m := by
  refine ⟨?_, (vP _ _).2 _ (zy hm hs ha)⟩
  exact (hm.or s.toNat a.toNat (by omega) (by omega)).1
theorem Av {m : Mly} (hm : MOK m) {s a : Int} (hs : 0 ≤ s ∧ s < m.nx.length) (ha : 0 ≤ a ∧ a < m.inp) : 0 ≤ m.nxt s a ∧ m.nxt s a < m.nx.length := hm.nr s.toNat a.toNat (by omega) (by omega)
def IP (a b : Mly) (p : PP) : Prop := (0 ≤ p.1 ∧ p.1 < a.nx.length) ∧ 0 ≤ p.2 ∧ p.2 < b.nx.length
def IS (m : Mly) (p : PP) : Prop := (0 ≤ p.1 ∧ p.1 < m.nx.length) ∧ p.2 = 0
theorem IP.st {a b : Mly} (ha : MOK a) (hb : MOK b) : IP a b (a.st, b.st) := ⟨⟨ha.s1, ha.s2⟩, hb.s1, hb.s2⟩
theorem IS.st {m : Mly} (hm : MOK m) : IS m (m.st, 0) := ⟨⟨hm.s1, hm.s2⟩, rfl⟩
structure SNG (X : Mly) (F : SYS) : Prop where
  st : ∀ s x : Nat, s < X.nx.length → (x : Int) < X.inp → F ((s : Int), 0) x = ((X.nxt s x, 0), X.out s x)
theorem SNG.at_ {X : Mly} {F : SYS} (h : SNG X F) {q : PP} (hq : IS X q) {x : Nat} (hx : (x : Int) < X.inp) : F q x = ((X.nxt q.1 x, 0), X.out q.1 x) := by
  obtain ⟨q1, q2⟩ := q
  obtain ⟨h1, h2⟩ := hq
  simp only at h1 h2
  subst h2
  have := h.st q1.toNat x (by omega) hx
  rw [Int.toNat_of_nonneg h1.1] at this
  exact this
/-plain-/
abbrev Bs := List UInt8
def okI (c : Int) : Prop := (97 ≤ c ∧ c ≤ 122) ∨ (65 ≤ c ∧ c ≤ 90) ∨ (48 ≤ c ∧ c ≤ 57) ∨ c = 95 ∨ c = 45 ∨ c = 46
instance (c : Int) : Decidable (okI c) := by unfold okI; exact inferInstance
def Cy (s : Bs) : Bool := s.all (fun b => decide (okI (b.toNat : Int))) && decide (1 ≤ s.length) && decide (s.length ≤ 32)
structure AOK (xs : List Bs) : Prop where
  n0 : 1 ≤ xs.length
  n1 : xs.length ≤ 64
  nm : ∀ k, k < xs.length → Cy (xs.getD k []) = true
  nw : ∀ k, k < xs.length → xs.getD k [] ∉ xs.take k
theorem qc {xs : List Bs} {k : Nat} (h : k < xs.length) : xs.getD k [] ∈ xs := by simp [List.getD, h]
theorem CL {xs : List Bs} {x : Bs} : x ∈ xs ↔ ∃ j, j < xs.length ∧ xs.getD j [] = x := by
  constructor
  · intro h
    obtain ⟨j, hj⟩ := List.getElem?_of_mem h
    exact ⟨j, (List.getElem?_eq_some_iff.1 hj).1, by simp [List.getD, hj]⟩
  · rintro ⟨j, hj, e⟩; rw [← e]; exact qc hj
theorem wi {xs : List Bs} {i k : Nat} (hi : i < k) : (xs.take k).getD i [] = xs.getD i [] := by simp [List.getD, List.getElem?_take, hi]
theorem vJ {q : Bs} : ∀ {l : List Bs} {k : Nat}, k < pos l q → l.getD k [] ≠ q
  | [], k, h => by simp [pos] at h
  | y :: l, k, h => by
    simp only [pos] at h
    split at h
    · omega
    · rename_i e
      cases k with
      | zero => simpa [List.getD] using e
      | succ k =>
        have := vJ (q := q) (l := l) (k := k) (by omega)
        simpa [List.getD] using this
theorem AX {l : List Bs} {q : Bs} (h : q ∈ l) : l.getD (pos l q) [] = q := by rw [List.getD, jl h]; rfl
theorem D1 {l : List Bs} {q : Bs} {k : Nat} (hq : ∀ j, j < k → l.getD j [] ≠ q) (hk : k < l.length) (h : l.getD k [] = q) : pos l q = k ∧ q ∈ l := by
  have hm : q ∈ l := by rw [← h]; exact qc hk
  refine ⟨?_, hm⟩
  rcases Nat.lt_trichotomy k (pos l q) with h2 | h2 | h2
  · exact absurd h (vJ h2)
  · exact h2.symm
  · exact absurd (AX hm) (hq _ h2)
theorem AOK.pos {xs : List Bs} (h : AOK xs) {k : Nat} (hk : k < xs.length) : pos xs (xs.getD k []) = k :=
  (D1 (fun j hj e => h.nw k hk (by rw [CL]; exact ⟨j, by rw [List.length_take]; omega, by rw [wi hj, e]⟩)) hk rfl).1
/-plain-/
def prL (f : Nat → Int) (n s : Nat) (x : Int) : List Int := (List.range n).map fun q => if q < s then f q else if q = s then x else 0
theorem pH (f : Nat → Int) (n s : Nat) (x : Int) : (prL f n s x).length = n := by simp [prL]
theorem uZ {f : Nat → Int} {n s : Nat} (h : s < n) (x y : Int) : (prL f n s x).set s y = prL f n s y := by
  refine List.ext_getElem (by simp [prL]) fun i h1 h2 => ?_
  simp only [prL, List.getElem_set, List.getElem_map, List.getElem_range]
  by_cases e : s = i
  · subst e; simp
  · rw [if_neg e, if_neg (Ne.symm e), if_neg (Ne.symm e)]
theorem sR (f : Nat → Int) (n s : Nat) : prL f n s (f s) = prL f n (s + 1) 0 := by
  unfold prL
  refine List.map_congr_left fun q _ => ?_
  by_cases e : q = s
  · subst e; simp
  · by_cases e2 : q < s
    · rw [if_pos e2, if_pos (by omega)]
    · rw [if_neg e2, if_neg e, if_neg (by omega)]; split <;> rfl
theorem A3 (f : Nat → Int) (n : Nat) : prL f n 0 0 = List.replicate n 0 := by
  refine List.ext_getElem (by simp [prL]) fun i h1 h2 => ?_
  simp [prL]
theorem v7 (f : Nat → Int) (n : Nat) (x : Int) : prL f n n x = (List.range n).map f := by
  unfold prL
  refine List.map_congr_left fun q hq => ?_
  rw [if_pos (List.mem_range.1 hq)]
def bI1 (b : Bool) : Int := if b = true then 1 else 0
def CK (d : Dfa) (s : Nat) : Int := bI1 (d.acc.getD s false)
/-plain-/
/-plain-/
/-plain-/
instance dq12 : DecidableEq bj := @instDecidableEqProd (List Int) (Int × (List dX × Unit)) inferInstance (@instDecidableEqProd Int (List dX × Unit) inferInstance inferInstance)
theorem xH {T U : List bj} {i : Nat} (h : (T.getD i nd0) ≠ (U.getD i nd0)) : ¬ T = U := fun e => h (by rw [e])
theorem mS {T U : List bj} (hl : T.length = U.length) (h : ∀ i, i < T.length → T.getD i nd0 = U.getD i nd0) : T = U := by
  apply List.ext_getElem hl
  intro i h1 h2
  have := h i h1
  simpa [List.getD, h1, h2] using this
theorem AY {K L : List dX} (hl : K.length = L.length) (h : ∀ i, i < K.length → K.getD i kd0 = L.getD i kd0) : K = L := by
  apply List.ext_getElem hl
  intro i h1 h2
  have := h i h1
  simpa [List.getD, h1, h2] using this
theorem Ck {x y : bj} (h1 : x.2.1 = y.2.1) (h2 : x.1 = y.1) (h3 : x.2.2.1 = y.2.2.1) : x = y := by
  obtain ⟨a, b, c, _⟩ := x; obtain ⟨a2, b2, c2, _⟩ := y
  simp only at h1 h2 h3
  subst h1 h2 h3; rfl
theorem Cu {x y : dX} (h1 : x.1 = y.1) (h2 : x.2.1 = y.2.1) : x = y := by
  obtain ⟨a, b, _⟩ := x; obtain ⟨a2, b2, _⟩ := y
  simp only at h1 h2
  subst h1 h2; rfl
/-plain-/
def eE : Mly := ⟨1, 0, [[1], [2], [0]], [[0], [0], [1]]⟩
def iz : List bj := [([0, 1, 2], (0, ([(0, (1, ())), (1, (4, ()))], ()))), ([0, 1], (0, ([(0, (2, ())), (1, (3, ()))], ()))), ([0], (-1, ([], ()))), ([1], (-1, ([], ()))), ([2], (-1, ([], ())))]
def z12 : Mly := ⟨0, 0, [], []⟩
theorem cz : eE.av = .agg [.int .i64 1, .int .i64 0, .list (.list (.int .i64)) [[1], [2], [0]], .list (.list (.int .i64)) [[0], [0], [1]]] := rfl
theorem cA : AC.list ndT iz = AC.list (.pair (.list (.int .i64)) (.pair (.int .i64) (.pair (.list (.pair (.int .i64) (.pair (.int .i64) .unit))) .unit))) [([0, 1, 2], (0, ([(0, (1, ())), (1, (4, ()))], ()))), ([0, 1], (0, ([(0, (2, ())), (1, (3, ()))], ()))), ([0], (-1, ([], ()))), ([1], (-1, ([], ()))), ([2], (-1, ([], ())))] := rfl
def w9 (xs : List Int) : List Int := xs.foldl o5 []
def tW (m : Mly) : Nat → List Int → List Int → List Int → Nat → List bj
  | 0, _, _, _, _ => []
  | f + 1, ini, cur, w, n => if 4096 < n + 1 then [(ini, -1, [], ())] else
    match gF m ini cur w with
    | [] => [(ini, -1, [], ())]
    | a :: w2 => (ini, a, ((w9 (ouL m cur a)).foldl (dN n (fun i c k => tW m f i c w2 k) m ini cur a) ([], [])).2, ()) :: ((w9 (ouL m cur a)).foldl (dN n (fun i c k => tW m f i c w2 k) m ini cur a) ([], [])).1
theorem rH (m : Mly) : ∀ f, tW m f = cI m f
  | 0 => rfl
  | f + 1 => by
    funext ini cur w n
    rw [tW, cI, rH m f]
    have e : w9 = aG := by funext xs; exact yR xs
    rw [e]
    cases gF m ini cur w <;> rfl
theorem Bm : aL eE = 0 := by decide +kernel
theorem ww : dK eE = 0 := by decide +kernel
theorem tP : dt eE = iz := by
  show cI eE 4098 _ _ [] 0 = _
  rw [← rH]; decide +kernel
theorem AZ : dE eE = 0 := by unfold dE; rw [ww, tP]; decide
theorem rz : iy eE = iz := by rw [(fa AZ).1, tP]
theorem CY : lK eE = true := by rw [(fa AZ).2, tP]; decide
theorem CN : ¬ dE z12 = 0 := by
  have e : dK z12 = 2 := by decide +kernel
  unfold dE; rw [e]; decide
theorem Bk : fm eE iz = 0 := by
  unfold fm
  rw [if_neg (fun h => h ww), if_neg]
  have h := (jg (eJ Bm) (by decide)).2.1
  rw [tP] at h
  exact fun h9 => h9.elim (by decide) (fun h8 => h8 h)
theorem Cf : gI eE iz 0 = 0 := by unfold gI; rw [Bk]; decide
theorem D2 : iD eE iz 0 = ([0, 0], 2) := by decide +kernel
theorem CD : dpT iz = 2 := by decide +kernel
theorem Ce : fm eE [] = 1 := by
  unfold fm
  rw [if_neg (fun h => h ww), if_pos]
  right
  rw [oX (by simp)]; simp
theorem sI {m : Mly} {n : Nat} {rec : List Int → List Int → Nat → List bj} {ini cur : List Int} {a : Int} (hr : ∀ o k, ∀ x ∈ rec (cw m ini cur a cur.length o) (bV m cur a cur.length o) k, x.2.2.1.length ≤ 1000) : ∀ (ks : List Int) (t : List bj × List dX), (∀ x ∈ t.1, x.2.2.1.length ≤ 1000) →
    (∀ x ∈ (ks.foldl (dN n rec m ini cur a) t).1, x.2.2.1.length ≤ 1000) ∧ (ks.foldl (dN n rec m ini cur a) t).2.length ≤ t.2.length + ks.length
  | [], t, h => ⟨h, Nat.le_refl _⟩
  | o :: ks, t, h => by
    rw [List.foldl_cons]
    have h1 : (∀ x ∈ (dN n rec m ini cur a t o).1, x.2.2.1.length ≤ 1000) ∧ (dN n rec m ini cur a t o).2.length ≤ t.2.length + 1 := by
      unfold dN
      split
      · exact ⟨h, Nat.le_succ _⟩
      · refine ⟨fun x hx => ?_, by simp⟩
        rcases List.mem_append.1 hx with h9 | h9
        · exact h x h9
        · exact hr _ _ x h9
    obtain ⟨a1, a2⟩ := sI hr ks _ h1.1
    exact ⟨a1, by rw [ax]; omega⟩
theorem vE {m : Mly} : ∀ (f : Nat) (ini cur w : List Int) (n : Nat), cur.length ≤ 1000 → ∀ x ∈ cI m f ini cur w n, x.2.2.1.length ≤ 1000
  | 0, _, _, _, _, _, x, hx => by cases hx
  | f + 1, ini, cur, w, n, h, x, hx => by
    by_cases e : 4096 < n + 1
    · rw [eX e, List.mem_singleton] at hx; rw [hx]; exact Nat.zero_le _
    · cases hw : gF m ini cur w with
      | nil => rw [eS e hw, List.mem_singleton] at hx; rw [hx]; exact Nat.zero_le _
      | cons a w2 =>
        rw [da e hw] at hx
        obtain ⟨h1, h2⟩ := sI (m := m) (n := n) (rec := fun i c k => cI m f i c w2 k) (ini := ini) (cur := cur) (a := a) (fun o k => vE f _ _ w2 k (by have := mv (m := m) (cur := cur) (a := a) (o := o) (i := cur.length); omega)) (aG (ouL m cur a)) ([], []) (fun x hx => by cases hx)
        rcases List.mem_cons.1 hx with h9 | h9
        · rw [h9]
          have h3 := iq (ouL m cur a)
          have h4 : (ouL m cur a).length = cur.length := aw ..
          simp only [aI] at h2
          show ((aG (ouL m cur a)).foldl (dN n (fun i c k => cI m f i c w2 k) m ini cur a) ([], [])).2.length ≤ 1000
          omega
        · exact h1 x h9
theorem y3 {m : Mly} : ∀ x ∈ iy m, x.2.2.1.length ≤ 1000000 := fun x hx => by
  by_cases h : dE m = 0
  · rw [(fa h).1] at hx
    have hE : dK m = 0 := Classical.byContradiction fun h9 => by unfold dE at h; rw [if_pos h9] at h; exact h9 h
    have hn2 := (eJ (nf hE)).n2
    have := vE 4098 _ _ _ _ (by rw [di]; omega) x hx
    omega
  · rw [(fI h).1] at hx; cases hx
/-plain-/
theorem mf {P : Program} {f : FuncId} {xs ys : List AV} {r : AV} (h : cb P f ys r) (hv : bv VLE xs ys) : cb P f xs r :=
  ⟨h.1, fun C L σ w vs hP hi ha => h.2 C L σ w vs hP hi (hv.map2 (fun a b c hab hac => hab C L σ w c hac) ha)⟩
/-plain-/
theorem yv {C : Ctx} {Q : Go.Exit → St → Prop} {s : St} {c : Go.Code} {L1 G : List AO} (hG : G = [] ∨ ∃ ob, G = [ob]) (hL : s.L = L1 ++ G) (hB : C.bL.length ≤ L1.length) (he : s.env.all (fun x => fN L1.length x.2) = true) (ho : L1.all (dQ L1.length) = true)
    (h : AWP C c Q { env := s.env, L := L1 }) : AWP C c Q s := by
  rcases hG with rfl | ⟨ob, rfl⟩
  · rw [List.append_nil] at hL
    have : s = { env := s.env, L := L1 } := by cases s; simp only at hL; rw [hL]
    rw [this]; exact h
  · exact eQ hL hB he ho h
/-plain-/
/-plain-/
/-plain-/
/-plain-/
def Dfa.sg (d : Dfa) (cl : List Int) (s : Nat) : List Int := cl.getD s 0 :: (d.nx.getD s []).map fun t => cl.getD t.toNat 0
def Dfa.nxL (d : Dfa) (cl : List Int) : List Int := (List.range d.nx.length).map fun s => (pos (dj (d.sg cl) d.nx.length) (d.sg cl s) : Int)
def Dfa.cl (d : Dfa) : Nat → List Int
  | 0 => (List.range d.nx.length).map (CK d)
  | i + 1 => d.nxL (d.cl i)
def Dfa.cn (d : Dfa) : Nat → Nat
  | 0 => 0
  | i + 1 => (dj (d.sg (d.cl i)) d.nx.length).length
def CH (n : Int) (w : List Int) : Prop := ∀ x, x ∈ w → 0 ≤ x ∧ x < n
def DEQ (a b : Dfa) (s t : Int) : Prop := ∀ w : List Int, CH a.inp w → a.ac (a.run s w) = b.ac (b.run t w)
theorem DEQ.acc {a b : Dfa} {s t : Int} (h : DEQ a b s t) : a.ac s = b.ac t := h [] (fun x hx => by cases hx)
theorem DEQ.refl (d : Dfa) (s : Int) : DEQ d d s s := fun _ _ => rfl
theorem DEQ.symm {d : Dfa} {s t : Int} (h : DEQ d d s t) : DEQ d d t s := fun w hw => (h w hw).symm
theorem DEQ.trans {d : Dfa} {s t u : Int} (h : DEQ d d s t) (h2 : DEQ d d t u) : DEQ d d s u := fun w hw => (h w hw).trans (h2 w hw)
/-plain-/
/-plain-/
structure SIM (A B : STP) (n : Nat) (R : PP → PP → Prop) : Prop where
  st : ∀ p q, R p q → ∀ x, x < n → R (A p x) (B q x)
  bi : ∀ p q p' q', R p q → R p' q' → (p = p' ↔ q = q')
def RL (R : PP → PP → Prop) (l l' : List W3) : Prop := l.length = l'.length ∧ ∀ i, i < l.length → R (l.getD i w30).1 (l'.getD i w30).1 ∧ (l.getD i w30).2 = (l'.getD i w30).2
theorem RL.mem {A B : STP} {n : Nat} {R : PP → PP → Prop} (hs : SIM A B n R) {l l' : List W3} (h : RL R l l') {p q : PP} (hr : R p q) : p ∈ l.map Prod.fst ↔ q ∈ l'.map Prod.fst := by
  constructor
  · intro hm
    obtain ⟨e, he, e1⟩ := List.mem_map.1 hm
    obtain ⟨i, hi⟩ := List.getElem?_of_mem he
    have hlt := (List.getElem?_eq_some_iff.1 hi).1
    have h2 := h.2 i hlt
    have h3 : l.getD i w30 = e := by rw [List.getD, hi]; rfl
    rw [h3, e1] at h2
    have := (hs.bi _ _ _ _ h2.1 hr).1 rfl
    rw [← this]
    exact List.mem_map.2 ⟨_, u9 (by rw [← h.1]; exact hlt), rfl⟩
  · intro hm
    obtain ⟨e, he, e1⟩ := List.mem_map.1 hm
    obtain ⟨i, hi⟩ := List.getElem?_of_mem he
    have hlt := (List.getElem?_eq_some_iff.1 hi).1
    have h2 := h.2 i (by rw [h.1]; exact hlt)
    have h3 : l'.getD i w30 = e := by rw [List.getD, hi]; rfl
    rw [h3, e1] at h2
    have := (hs.bi _ _ _ _ h2.1 hr).2 rfl
    rw [← this]
    exact List.mem_map.2 ⟨_, u9 (by rw [h.1]; exact hlt), rfl⟩
theorem RL.snoc {R : PP → PP → Prop} {l l' : List W3} (h : RL R l l') {e f : W3} (hr : R e.1 f.1) (hw : e.2 = f.2) : RL R (l ++ [e]) (l' ++ [f]) := by
  refine ⟨by simp [h.1], fun i hi => ?_⟩
  rw [ar, List.length_singleton] at hi
  by_cases e1 : i < l.length
  · rw [ee e1, ee (by rw [← h.1]; exact e1)]; exact h.2 i e1
  · rw [gR (by omega), gR (by have := h.1; omega)]; exact ⟨hr, hw⟩
theorem RL.row {A B : STP} {n : Nat} {R : PP → PP → Prop} (hs : SIM A B n R) {l l' : List W3} (h : RL R l l') {e f : W3} (hr : R e.1 f.1) (hw : e.2 = f.2) : ∀ x, x ≤ n → RL R (kb A e l x) (kb B f l' x)
  | 0, _ => h
  | x + 1, hx => by
    have ih := h.row hs hr hw x (by omega)
    have h2 := hs.st _ _ hr x (by omega)
    rw [jQ, jQ]
    by_cases hm : A e.1 x ∈ (kb A e l x).map Prod.fst
    · rw [tI hm, tI ((ih.mem hs h2).1 hm)]; exact ih
    · rw [qg hm, qg (fun k => hm ((ih.mem hs h2).2 k))]
      exact ih.snoc h2 (by rw [hw])
theorem RL.one {R : PP → PP → Prop} {p q : PP} (h : R p q) : RL R [(p, [])] [(q, [])] := ⟨rfl, fun i hi => by
  have : i = 0 := by simpa using hi
  subst this; exact ⟨h, rfl⟩⟩
/-plain-/
/-plain-/
def SLT (u v : List Int) : Prop := u.length < v.length ∨ (u.length = v.length ∧ ∃ m, m < u.length ∧ (∀ q, q < m → u.getD q 0 = v.getD q 0) ∧ u.getD m 0 < v.getD m 0)
def SLE (u v : List Int) : Prop := u = v ∨ SLT u v
theorem SLT.trans {u v w : List Int} (h : SLT u v) (h2 : SLT v w) : SLT u w := by
  rcases h with h | ⟨h, m, a1, a2, a3⟩
  · rcases h2 with h2 | ⟨h2, _⟩
    · exact .inl (by omega)
    · exact .inl (by omega)
  · rcases h2 with h2 | ⟨h2, k, b1, b2, b3⟩
    · exact .inl (by omega)
    · refine .inr ⟨by omega, ?_⟩
      rcases Nat.lt_trichotomy m k with e | e | e
      · exact ⟨m, a1, fun q hq => (a2 q hq).trans (b2 q (by omega)), by rw [← b2 m e]; exact a3⟩
      · subst e; exact ⟨m, a1, fun q hq => (a2 q hq).trans (b2 q hq), by omega⟩
      · exact ⟨k, by omega, fun q hq => (a2 q (by omega)).trans (b2 q hq), by rw [a2 k e]; exact b3⟩
theorem SLE.trans_lt {u v w : List Int} (h : SLE u v) (h2 : SLT v w) : SLT u w := by
  rcases h with rfl | h
  · exact h2
  · exact h.trans h2
theorem SLE.trans {u v w : List Int} (h : SLE u v) (h2 : SLE v w) : SLE u w := by
  rcases h2 with rfl | h2
  · exact h
  · exact .inr (h.trans_lt h2)
theorem SLT.app {u v : List Int} (h : SLT u v) (a b : Int) : SLT (u ++ [a]) (v ++ [b]) := by
  rcases h with h | ⟨h, m, a1, a2, a3⟩
  · exact .inl (by simp; omega)
  · refine .inr ⟨by simp; omega, m, by simp; omega, fun q hq => ?_, ?_⟩
    · rw [ee (by omega), ee (by omega)]; exact a2 q hq
    · rw [ee a1, ee (by omega)]; exact a3
theorem SLE.app {u v : List Int} (h : SLE u v) (a : Int) : SLE (u ++ [a]) (v ++ [a]) := by
  rcases h with rfl | h
  · exact .inl rfl
  · exact .inr (h.app a a)
theorem SLT.nil (u : List Int) (x : Int) : SLT [] (u ++ [x]) := .inl (by simp)
theorem SLE.len {u v : List Int} (h : SLE u v) : u.length ≤ v.length := by
  rcases h with rfl | h | ⟨h, _⟩ <;> omega
structure BW (A : STP) (n i : Nat) (l : List W3) : Prop where
  so : ∀ j k, j < k → k < l.length → SLT (l.getD j w30).2 (l.getD k w30).2
  mi : ∀ j, j < i → j < l.length → ∀ x, x < n → ∃ k, k < l.length ∧ (l.getD k w30).1 = A (l.getD j w30).1 x ∧ SLE (l.getD k w30).2 ((l.getD j w30).2 ++ [(x : Int)])
  up : i < l.length → ∀ k, k < l.length → SLT (l.getD k w30).2 ((l.getD i w30).2 ++ [0])
structure BX (A : STP) (n i x : Nat) (l0 l : List W3) : Prop where
  so : ∀ j k, j < k → k < l.length → SLT (l.getD j w30).2 (l.getD k w30).2
  mi : ∀ y, y < x → ∃ k, k < l.length ∧ (l.getD k w30).1 = A (l0.getD i w30).1 y ∧ SLE (l.getD k w30).2 ((l0.getD i w30).2 ++ [(y : Int)])
  up : ∀ k, k < l.length → SLT (l.getD k w30).2 ((l0.getD i w30).2 ++ [(x : Int)])
/-plain-/
structure LCL (A : STP) (n : Nat) (L : List W3) : Prop where
  nd : (L.map Prod.fst).Nodup
  cl : ∀ j, j < L.length → ∀ x, x < n → A (L.getD j w30).1 x ∈ L.map Prod.fst
variable {A : STP} {G : PP → Bool} {n : Nat} {L : List W3}
/-plain-/
def Dfa.sto (d : Dfa) : Nat → Nat → Nat
  | 0, i => i
  | f + 1, i => if d.cn (i + 1) = d.cn i then i else d.sto f (i + 1)
def Dfa.cls (d : Dfa) : List Int := d.cl (d.sto (d.nx.length + 1) 0 + 1)
def fsV (cl : List Int) (n s c : Nat) : Int := match (List.range n).find? (fun q => decide (s ≤ q) && decide (cl.getD q 0 = (c : Int))) with | some q => (q : Int) | none => 0
def fsL (cl : List Int) (n s : Nat) : List Int := (List.range n).map fun c => fsV cl n s c
def Dfa.rep (d : Dfa) (s : Int) : Int := (fsL d.cls d.nx.length 0).getD (d.cls.getD s.toNat 0).toNat 0
structure RPR (d : Dfa) (s r : Int) : Prop where
  rg : 0 ≤ r ∧ r < d.nx.length
  le : r ≤ s
  cl : d.cls.getD r.toNat 0 = d.cls.getD s.toNat 0
  mi : ∀ q : Nat, (q : Int) < r → d.cls.getD q 0 ≠ d.cls.getD s.toNat 0
/-plain-/
structure M1OK (d : Dfa) (q : PP) (x : Nat) : Prop where
  r1 : 0 ≤ q.1 ∧ q.1 < d.nx.length
  rl : ((d.nx.getD q.1.toNat []).length : Int) = d.inp
  t1 : 0 ≤ (d.nx.getD q.1.toNat []).getD x 0 ∧ (d.nx.getD q.1.toNat []).getD x 0 < d.nx.length
  c1 : 0 ≤ d.cls.getD ((d.nx.getD q.1.toNat []).getD x 0).toNat 0 ∧ d.cls.getD ((d.nx.getD q.1.toNat []).getD x 0).toNat 0 < d.nx.length
  e : d.rep (d.dl q.1 x) = (fsL d.cls d.nx.length 0).getD (d.cls.getD ((d.nx.getD q.1.toNat []).getD x 0).toNat 0).toNat 0
/-plain-/
structure SHP (d : Dfa) (P : List W3) (k : Nat) : Prop where
  rg : 0 ≤ (P.getD k w30).1.1 ∧ (P.getD k w30).1.1 < d.nx.length
/-plain-/
/-plain-/
/-plain-/
def lq (P : Nat → Bool) (s : Nat) : Nat := ((List.range s).find? P).getD s
def rc0 (t : Dfa) (s : Nat) : Int := (lq (fun q => decide (t.acc.getD q false = t.acc.getD s false)) s : Int)
def rcF (t : Dfa) (cl : List Int) (s : Nat) : Int := (lq (fun q => decide (t.sg cl q = t.sg cl s)) s : Int)
def rcl (t : Dfa) : Nat → List Int
  | 0 => (List.range t.nx.length).map (rc0 t)
  | r + 1 => (List.range t.nx.length).map (rcF t (rcl t r))
def rC (t : Dfa) : List Int := rcl t t.nx.length
structure RCK (t : Dfa) : Prop where
  rg : ∀ s, s < t.nx.length → 0 ≤ (rC t).getD s 0 ∧ (rC t).getD s 0 ≤ s
  eq : ∀ s u, s < t.nx.length → u < t.nx.length → ((rC t).getD s 0 = (rC t).getD u 0 ↔ DEQ t t s u)
  id : ∀ s, s < t.nx.length → (rC t).getD ((rC t).getD s 0).toNat 0 = (rC t).getD s 0
/-plain-/
/-plain-/
theorem xK {m : Mly} (hm : MOK m) : ∀ (w : List Int) (s : Int), 0 ≤ s ∧ s < m.nx.length → (∀ i : Nat, i < w.length → 0 ≤ w.getD i 0 ∧ w.getD i 0 < m.inp) → (0 ≤ (m.go s w).1 ∧ (m.go s w).1 < m.nx.length) ∧ ∀ o, o ∈ (m.go s w).2 → 0 ≤ o ∧ o ≤ gr m
  | [], s, hs, _ => ⟨hs, fun o h => by simp [tn] at h⟩
  | a :: w, s, hs, hw => by
    obtain ⟨h1, h2⟩ := jR hw
    have hn := Av hm hs h1
    have ho := BG hm hs h1
    obtain ⟨r1, r2⟩ := xK hm w _ hn h2
    rw [dr]
    refine ⟨r1, fun o h => ?_⟩
    rcases List.mem_cons.1 h with e | h
    · rw [e]; exact ho
    · exact r2 o h
structure PRL (a b M : Mly) (w : List Int) : Prop where
  v : aL M = 0
  st : M.st = 0
  re : M.reach.length = M.nx.length
  ea : fo a a.st w = cV w a.inp
  eb : fo b b.st w = cV w a.inp
  em : fo M M.st w = cV w a.inp
  la : (dV a a.st w).length = (dV M M.st w).length
  lb : (dV b b.st w).length = (dV M M.st w).length
  at_ : ∀ i, i < (dV M M.st w).length → (dV M M.st w).getD i 0 = (dV a a.st w).getD i 0 * (1 + gr b) + (dV b b.st w).getD i 0
structure CAL (a b M : Mly) (w : List Int) : Prop where
  v : aL M = 0
  ea : fo a a.st w = cV w a.inp
  em : fo M M.st w = cV w a.inp
  eb : cV w a.inp = 0 → fo b b.st (dV a a.st w) = 0
  vb : cV w a.inp = 0 → dV b b.st (dV a a.st w) = dV M M.st w
def plU (n : Int) (w : List Int) : List Int := w.filter fun x => decide (x < n)
def plV (n : Int) (w : List Int) : List Int := (w.filter fun x => !decide (x < n)).map fun x => x - n
def plA (n : Int) (e : List (Int × Int)) : List Int := (e.filter fun x => decide (x.1 < n)).map (·.2)
def plB (n k : Int) (e : List (Int × Int)) : List Int := (e.filter fun x => !decide (x.1 < n)).map fun x => x.2 - 1 - k
structure PLL (a b M : Mly) (w : List Int) : Prop where
  v : aL M = 0
  inp : M.inp = a.inp + b.inp
  em : fo M M.st w = cV w (a.inp + b.inp)
  lm : cV w (a.inp + b.inp) = 0 → (dV M M.st w).length = w.length
  ea : cV w (a.inp + b.inp) = 0 → fo a a.st (plU a.inp w) = 0
  eb : cV w (a.inp + b.inp) = 0 → fo b b.st (plV a.inp w) = 0
  va : cV w (a.inp + b.inp) = 0 → dV a a.st (plU a.inp w) = plA a.inp (w.zip (dV M M.st w))
  vb : cV w (a.inp + b.inp) = 0 → dV b b.st (plV a.inp w) = plB a.inp (gr a) (w.zip (dV M M.st w))
/-plain-/
def je (m : Mly) : Bool := (decide (12 < m.nx.length) || decide (12 < m.ot.length) || decide (6 < m.inp)) || (m.nx.any (fun r => decide (12 < r.length)) || m.ot.any (fun r => decide (12 < r.length)))
theorem BD {m : Mly} (h : (12 < m.nx.length ∨ 12 < m.ot.length) ∨ 6 < m.inp) : je m = true := by
  unfold je
  rw [Bool.or_eq_true]; left
  simp only [Bool.or_eq_true, decide_eq_true_eq]; exact h
theorem Bd {m : Mly} {k : Nat} (hk : k < m.nx.length) (h : 12 < (m.nx.getD k []).length) : je m = true := by
  unfold je
  rw [Bool.or_eq_true]; right; rw [Bool.or_eq_true]; left
  refine List.any_eq_true.2 ⟨_, List.getElem_mem hk, ?_⟩
  rw [List.getD, List.getElem?_eq_getElem hk] at h
  exact decide_eq_true h
theorem BY {m : Mly} {k : Nat} (hk : k < m.ot.length) (h : 12 < (m.ot.getD k []).length) : je m = true := by
  unfold je
  rw [Bool.or_eq_true]; right; rw [Bool.or_eq_true]; right
  refine List.any_eq_true.2 ⟨_, List.getElem_mem hk, ?_⟩
  rw [List.getD, List.getElem?_eq_getElem hk] at h
  exact decide_eq_true h
theorem oU {m : Mly} (h0 : ¬ ((12 < m.nx.length ∨ 12 < m.ot.length) ∨ 6 < m.inp)) (h1 : ∀ q, q < m.nx.length → (m.nx.getD q []).length ≤ 12) (h2 : ∀ q, q < m.ot.length → (m.ot.getD q []).length ≤ 12) : je m = false := by
  have any_no : ∀ (L : List (List Int)), (∀ q, q < L.length → (L.getD q []).length ≤ 12) → L.any (fun r => decide (12 < r.length)) = false := fun L h => by
    rw [List.any_eq_false]
    intro x hx
    obtain ⟨i, hi, rfl⟩ := List.getElem_of_mem hx
    have := h i hi
    rw [List.getD, List.getElem?_eq_getElem hi] at this
    simp only [Option.getD_some] at this
    rw [decide_eq_true_eq]; omega
  unfold je
  rw [any_no _ h1, any_no _ h2, decide_eq_false (by omega), decide_eq_false (by omega), decide_eq_false (by omega)]; rfl
def v8 (m : Mly) : Bool := (!je m && decide (m.nx.length ≤ 8)) && decide (m.inp ≤ 4)
theorem BH {m : Mly} (h : v8 m = true) : m.nx.length ≤ 8 ∧ m.inp ≤ 4 := by
  unfold v8 at h
  simp only [Bool.and_eq_true, decide_eq_true_eq] at h
  exact ⟨h.1.2, h.2⟩
/-plain-/
theorem BI {K : List dX} {i : Nat} (h : i < K.length) : K.getD i kd0 ∈ K := by
  rw [List.getD, List.getElem?_eq_getElem h]; exact List.getElem_mem h
theorem qp {m : Mly} {ini cur : List Int} {a : Int} {q : Nat} (hq : q < cur.length) : ∃ j, j < (bV m cur a cur.length (m.out (cur.getD q 0) a)).length ∧ (ptL m cur a (m.out (cur.getD q 0) a) cur.length).getD j 0 = (q : Int) ∧
    (cw m ini cur a cur.length (m.out (cur.getD q 0) a)).getD j 0 = ini.getD q 0 ∧ (bV m cur a cur.length (m.out (cur.getD q 0) a)).getD j 0 = m.nxt (cur.getD q 0) a := by
  obtain ⟨j, hj, e⟩ := fW (mI.2 ⟨q, hq, rfl, rfl⟩ : (q : Int) ∈ ptL m cur a (m.out (cur.getD q 0) a) cur.length)
  have e3 : (ptL m cur a (m.out (cur.getD q 0) a) cur.length)[j]'hj = (q : Int) := (jL hj).symm.trans e
  refine ⟨j, ?_, e, ?_, ?_⟩
  · unfold bV cO pkL; rw [aw, aw]; exact hj
  · unfold cw pkL; rw [List.getD, List.getElem?_map, List.getElem?_eq_getElem hj, e3]; simp
  · unfold bV cO pkL; rw [List.getD, List.getElem?_map, List.getElem?_map, List.getElem?_eq_getElem hj, e3]; simp
theorem pm {m : Mly} {T : List bj} {rec : Nat → List Int → List Int → Option Nat} (hr : ∀ e i c n, rec e i c = some n → e < n ∧ n ≤ T.length) {ini cur : List Int} {x : bj} {p : Nat} : ∀ (k n : Nat), (List.range k).foldl (fD m rec ini cur x) (some (p + 1)) = some n →
    (p + 1 ≤ n) ∧ ∀ i, i < k → ∃ e n2, p + 1 ≤ e ∧ n2 ≤ n ∧ (x.2.2.1.getD i kd0).1 = (aG (ouL m cur x.2.1)).getD i 0 ∧ (x.2.2.1.getD i kd0).2.1 = (e : Int) ∧ rec e (cw m ini cur x.2.1 cur.length ((aG (ouL m cur x.2.1)).getD i 0)) (bV m cur x.2.1 cur.length ((aG (ouL m cur x.2.1)).getD i 0)) = some n2 ∧
      ∀ j, i < j → j < k → (n2 : Int) ≤ (x.2.2.1.getD j kd0).2.1
  | 0, n, h => by
    simp only [List.range_zero, List.foldl_nil, Option.some.injEq] at h
    exact ⟨by omega, fun i hi => by omega⟩
  | k + 1, n, h => by
    rw [List.range_succ, List.foldl_append, List.foldl_cons, List.foldl_nil] at h
    cases h1 : (List.range k).foldl (fD m rec ini cur x) (some (p + 1)) with
    | none => rw [h1] at h; cases h
    | some e =>
      rw [h1] at h
      obtain ⟨h2, h3⟩ := pm hr k e h1
      by_cases hk : (x.2.2.1.getD k kd0).1 = (aG (ouL m cur x.2.1)).getD k 0 ∧ (x.2.2.1.getD k kd0).2.1 = (e : Int)
      · rw [kL hk] at h
        have h4 := hr _ _ _ _ h
        refine ⟨by omega, fun i hi => ?_⟩
        by_cases e9 : i = k
        · subst e9; exact ⟨e, n, h2, Nat.le_refl _, hk.1, hk.2, h, fun j h5 h6 => by omega⟩
        · obtain ⟨e1, n1, a1, a2, a3, a4, a5, a6⟩ := h3 i (by omega)
          refine ⟨e1, n1, a1, by omega, a3, a4, a5, fun j h5 h6 => ?_⟩
          by_cases e8 : j = k
          · subst e8; rw [hk.2]; omega
          · exact a6 j h5 (by omega)
      · rw [qt hk] at h; cases h
theorem ud {m : Mly} {T : List bj} {f p n : Nat} {ini cur : List Int} (h : rtF m T (f + 1) p ini cur = some n) (h0 : ¬ (T.getD p nd0).2.1 < 0) {s : Int} (hs : s ∈ cur) :
    ∃ e n2 : Nat, kTo (T.getD p nd0).2.2.1 (m.out s (T.getD p nd0).2.1) = (e : Int) ∧ p + 1 ≤ e ∧ n2 ≤ n ∧
      rtF m T f e (cw m ini cur (T.getD p nd0).2.1 cur.length (m.out s (T.getD p nd0).2.1)) (bV m cur (T.getD p nd0).2.1 cur.length (m.out s (T.getD p nd0).2.1)) = some n2 ∧
      (∃ k ∈ (T.getD p nd0).2.2.1, k.2.1 = (e : Int)) ∧ ∀ u, u ∈ cur → m.out s (T.getD p nd0).2.1 < m.out u (T.getD p nd0).2.1 → (n2 : Int) ≤ kTo (T.getD p nd0).2.2.1 (m.out u (T.getD p nd0).2.1) := by
  obtain ⟨hn, hk⟩ := mQ h
  rcases hk with ⟨h1, _⟩ | ⟨h1, h2, h3, h4⟩
  · omega
  · obtain ⟨_, hall⟩ := pm (fun e i c n h => eT h) _ _ h4
    have hso := (dC (ouL m cur (T.getD p nd0).2.1)).1
    have hkt : ∀ u, u ∈ cur → pos (aG (ouL m cur (T.getD p nd0).2.1)) (m.out u (T.getD p nd0).2.1) < (T.getD p nd0).2.2.1.length ∧ (aG (ouL m cur (T.getD p nd0).2.1)).getD (pos (aG (ouL m cur (T.getD p nd0).2.1)) (m.out u (T.getD p nd0).2.1)) 0 = m.out u (T.getD p nd0).2.1 ∧
        kTo (T.getD p nd0).2.2.1 (m.out u (T.getD p nd0).2.1) = ((T.getD p nd0).2.2.1.getD (pos (aG (ouL m cur (T.getD p nd0).2.1)) (m.out u (T.getD p nd0).2.1)) kd0).2.1 := fun u hu => by
      have hin : m.out u (T.getD p nd0).2.1 ∈ aG (ouL m cur (T.getD p nd0).2.1) := ((dC _).2 _).2 (List.mem_map.2 ⟨u, hu, rfl⟩)
      have hpl := gS hin
      have hgp := jO hin
      obtain ⟨_, _, _, _, h5, _⟩ := hall _ (by omega : pos (aG (ouL m cur (T.getD p nd0).2.1)) (m.out u (T.getD p nd0).2.1) < (T.getD p nd0).2.2.1.length)
      refine ⟨by omega, hgp, oM (by omega) (by rw [h5]; exact hgp) fun j hj h9 => ?_⟩
      obtain ⟨_, _, _, _, h6, _⟩ := hall j (by omega)
      rw [h6] at h9
      have e1 : (aG (ouL m cur (T.getD p nd0).2.1)).getD j 0 = (aG (ouL m cur (T.getD p nd0).2.1))[j]'(by omega) := jL (by omega)
      have e2 : (aG (ouL m cur (T.getD p nd0).2.1)).getD (pos (aG (ouL m cur (T.getD p nd0).2.1)) (m.out u (T.getD p nd0).2.1)) 0 = (aG (ouL m cur (T.getD p nd0).2.1))[pos (aG (ouL m cur (T.getD p nd0).2.1)) (m.out u (T.getD p nd0).2.1)]'hpl := jL hpl
      have := List.pairwise_iff_getElem.1 hso _ _ (by omega) hpl hj
      omega
    obtain ⟨k1, k2, k3⟩ := hkt s hs
    obtain ⟨e, n2, a1, a2, a3, a4, a5, a6⟩ := hall _ k1
    rw [k2] at a5
    refine ⟨e, n2, by rw [k3]; exact a4, a1, a2, a5, ⟨_, ?_, a4⟩, fun u hu hlt => ?_⟩
    · exact BI k1
    · obtain ⟨l1, l2, l3⟩ := hkt u hu
      rw [l3]
      refine a6 _ ?_ l1
      refine Classical.byContradiction fun h9 => ?_
      have e1 : (aG (ouL m cur (T.getD p nd0).2.1)).getD (pos (aG (ouL m cur (T.getD p nd0).2.1)) (m.out s (T.getD p nd0).2.1)) 0 = (aG (ouL m cur (T.getD p nd0).2.1))[pos (aG (ouL m cur (T.getD p nd0).2.1)) (m.out s (T.getD p nd0).2.1)]'(by omega) := jL (by omega)
      have e2 : (aG (ouL m cur (T.getD p nd0).2.1)).getD (pos (aG (ouL m cur (T.getD p nd0).2.1)) (m.out u (T.getD p nd0).2.1)) 0 = (aG (ouL m cur (T.getD p nd0).2.1))[pos (aG (ouL m cur (T.getD p nd0).2.1)) (m.out u (T.getD p nd0).2.1)]'(by omega) := jL (by omega)
      rcases Nat.lt_or_eq_of_le (Nat.le_of_not_lt h9) with h8 | h8
      · have := List.pairwise_iff_getElem.1 hso _ _ (by omega) (by omega) h8
        omega
      · rw [h8, k2] at l2; omega
theorem zj {T : List bj} {r : Nat → Int} {p : Nat} : ∀ {K : List dX} {n : Int}, n ≤ K.foldl (eD T r p) n ∧ ∀ k ∈ K, (p : Int) < k.2.1 → k.2.1 < T.length → 1 + r k.2.1.toNat ≤ K.foldl (eD T r p) n
  | [], n => ⟨Int.le_refl _, fun k hk => by cases hk⟩
  | x :: K, n => by
    obtain ⟨h1, h2⟩ := zj (T := T) (r := r) (p := p) (K := K) (n := eD T r p n x)
    have h3 : n ≤ eD T r p n x := by unfold eD; split <;> omega
    refine ⟨by rw [List.foldl_cons]; omega, fun k hk a b => ?_⟩
    rw [List.foldl_cons]
    rcases List.mem_cons.1 hk with rfl | hk
    · have h4 : 1 + r k.2.1.toNat ≤ eD T r p n k := by unfold eD; rw [if_pos ⟨a, b⟩]; omega
      omega
    · exact h2 k hk a b
theorem oW {m : Mly} (hm : MOK m) {T : List bj} : ∀ (f g p n : Nat) (ini cur : List Int) (q : Nat), rtF m T g p ini cur = some n → ini.length = cur.length → dm m cur → q < cur.length → T.length ≤ f + p →
    p ≤ (wdG m T f p (cur.getD q 0)).2 ∧ (wdG m T f p (cur.getD q 0)).2 < n ∧ (T.getD (wdG m T f p (cur.getD q 0)).2 nd0).2.1 = -1 ∧ ini.getD q 0 ∈ (T.getD (wdG m T f p (cur.getD q 0)).2 nd0).1 ∧
      (((wdG m T f p (cur.getD q 0)).1.length : Nat) : Int) ≤ dpA T p ∧ dD m (wdG m T f p (cur.getD q 0)).1 ∧ (T.getD (wdG m T f p (cur.getD q 0)).2 nd0).1.length ≤ m.nx.length
  | 0, g, p, n, ini, cur, q, hr, hil, hst, hq, hf => by have := eT hr; omega
  | f + 1, 0, p, n, ini, cur, q, hr, hil, hst, hq, hf => by cases hr
  | f + 1, g + 1, p, n, ini, cur, q, hr, hil, hst, hq, hf => by
    have hrg := eT hr
    obtain ⟨hn, hk⟩ := mQ hr
    rcases hk with ⟨h1, _, h3⟩ | ⟨h1, h2, _, _⟩
    · rw [kv (by omega)]
      refine ⟨Nat.le_refl _, by show p < n; omega, h1, ?_, ?_, fun x hx => (by cases hx), ?_⟩
      · show _ ∈ (T.getD p nd0).1
        rw [hn.2.1]; exact br (by omega)
      · have := (pX hn.1).1
        show ((0 : Nat) : Int) ≤ _
        omega
      · show (T.getD p nd0).1.length ≤ _
        rw [hn.2.1, hil]
        exact eV m.nx.length cur hn.2.2 fun x hx => hst x hx
    · have h0 : ¬ (T.getD p nd0).2.1 < 0 := by omega
      obtain ⟨e, n2, a1, a2, a3, a4, ⟨k, ak, ak2⟩, _⟩ := ud hr h0 (br hq)
      obtain ⟨j, b1, b2, b3, b4⟩ := qp (m := m) (ini := ini) (a := (T.getD p nd0).2.1) hq
      have ih := oW hm f g e n2 _ _ j a4 (fA ..) (jA hm ⟨h1, h2⟩ hst) b1 (by omega)
      rw [b3, b4] at ih
      obtain ⟨c1, c2, c3, c4, c5, c6, c7⟩ := ih
      rw [jM h0, a1, ai]
      have he := eT a4
      refine ⟨by show p ≤ _; omega, by show _ < n; omega, c3, c4, ?_, fun x hx => ?_, c7⟩
      · have h9 := (zj (T := T) (r := dpA T) (p := p) (K := (T.getD p nd0).2.2.1) (n := 0)).2 k ak (by omega) (by omega)
        rw [← xx hn.1, ak2, ai] at h9
        simp only [ax]
        omega
      · rcases List.mem_cons.1 hx with rfl | hx
        · exact ⟨h1, h2⟩
        · exact c6 x hx
def lM : List Int → List Int → Nat
  | a :: v, b :: w => if a = b then lM v w + 1 else 0
  | _, _ => 0
theorem xW {m : Mly} (hm : MOK m) {T : List bj} : ∀ (f g p n : Nat) (ini cur : List Int) (q r : Nat), rtF m T g p ini cur = some n → ini.length = cur.length → dm m cur → q < cur.length → r < cur.length → q ≠ r → T.length ≤ f + p →
    ((wdG m T f p (cur.getD q 0)).2 = (wdG m T f p (cur.getD r 0)).2 → (wdG m T f p (cur.getD q 0)).1 = (wdG m T f p (cur.getD r 0)).1 ∧ (m.go (cur.getD q 0) (wdG m T f p (cur.getD q 0)).1).2 = (m.go (cur.getD r 0) (wdG m T f p (cur.getD q 0)).1).2 ∧ (m.go (cur.getD q 0) (wdG m T f p (cur.getD q 0)).1).1 ≠ (m.go (cur.getD r 0) (wdG m T f p (cur.getD q 0)).1).1) ∧
    ((wdG m T f p (cur.getD q 0)).2 ≠ (wdG m T f p (cur.getD r 0)).2 → (m.go (cur.getD q 0) ((wdG m T f p (cur.getD q 0)).1.take (lM (wdG m T f p (cur.getD q 0)).1 (wdG m T f p (cur.getD r 0)).1))).2 ≠ (m.go (cur.getD r 0) ((wdG m T f p (cur.getD r 0)).1.take (lM (wdG m T f p (cur.getD q 0)).1 (wdG m T f p (cur.getD r 0)).1))).2)
  | 0, g, p, n, ini, cur, q, r, hr, hil, hst, hq, hq2, hne, hf => by have := eT hr; omega
  | f + 1, 0, p, n, ini, cur, q, r, hr, hil, hst, hq, hq2, hne, hf => by cases hr
  | f + 1, g + 1, p, n, ini, cur, q, r, hr, hil, hst, hq, hq2, hne, hf => by
    have hrg := eT hr
    obtain ⟨hn, hk⟩ := mQ hr
    rcases hk with ⟨h1, _, h3⟩ | ⟨h1, h2, _, _⟩
    · rw [kv (by omega), kv (by omega)]
      exact ⟨fun _ => ⟨rfl, rfl, fun h9 => hne (gT hn.2.2 hq hq2 h9)⟩, fun h9 => absurd rfl h9⟩
    · have h0 : ¬ (T.getD p nd0).2.1 < 0 := by omega
      obtain ⟨e, n2, a1, a2, a3, a4, _, a6⟩ := ud hr h0 (br hq)
      obtain ⟨e', n2', a1', a2', a3', a4', _, a6'⟩ := ud hr h0 (br hq2)
      obtain ⟨j, b1, b2, b3, b4⟩ := qp (m := m) (ini := ini) (a := (T.getD p nd0).2.1) hq
      obtain ⟨j', b1', b2', b3', b4'⟩ := qp (m := m) (ini := ini) (a := (T.getD p nd0).2.1) hq2
      by_cases ho : m.out (cur.getD q 0) (T.getD p nd0).2.1 = m.out (cur.getD r 0) (T.getD p nd0).2.1
      · rw [← ho] at a1' b1' b2' b3' b4'
        have hjj : j ≠ j' := fun h9 => by subst h9; rw [b2] at b2'; omega
        have ih := xW hm f g e n2 _ _ j j' a4 (fA ..) (jA hm ⟨h1, h2⟩ hst) b1 b1' hjj (by omega)
        rw [b4, b4'] at ih
        rw [jM h0, jM h0, ← ho, a1, ai]
        refine ⟨fun h9 => ?_, fun h9 => ?_⟩
        · obtain ⟨c1, c2, c3⟩ := ih.1 h9
          refine ⟨by rw [c1], ?_, ?_⟩
          · rw [dr, dr, ho]; simp only [c2]
          · rw [dr, dr]; exact c3
        · have c1 := ih.2 h9
          rw [lM, if_pos rfl, d6, d6, dr, dr, ho]
          intro h8
          exact c1 (List.cons.inj h8).2
      · have w1 := oW hm f g e n2 _ _ j a4 (fA ..) (jA hm ⟨h1, h2⟩ hst) b1 (by have := eT a4; omega)
        have w2 := oW hm f g e' n2' _ _ j' a4' (fA ..) (jA hm ⟨h1, h2⟩ hst) b1' (by have := eT a4'; omega)
        rw [b4] at w1
        rw [b4'] at w2
        rw [jM h0, jM h0, a1, a1', ai, ai]
        refine ⟨fun h9 => ?_, fun _ => ?_⟩
        · exfalso
          have h9' : (wdG m T f e (m.nxt (cur.getD q 0) (T.getD p nd0).2.1)).2 = (wdG m T f e' (m.nxt (cur.getD r 0) (T.getD p nd0).2.1)).2 := h9
          rcases Int.lt_or_lt_of_ne ho with h8 | h8
          · have := a6 _ (br hq2) h8
            rw [a1'] at this
            omega
          · have := a6' _ (br hq) h8
            rw [a1] at this
            omega
        · rw [lM, if_pos rfl, d6, d6, dr, dr]
          intro h8
          exact ho (List.cons.inj h8).1
/-plain-/
structure K12 (m : Mly) : Prop where
  ok : MOK m
  n8 : m.nx.length ≤ 8
  ck : dK m = 0
theorem By {m : Mly} (h1 : v8 m = true) (h2 : js m = 0) : K12 m := by
  have h3 : dK m = 0 := by rw [Ac]; exact h2
  exact ⟨eJ (nf h3), (BH h1).1, h3⟩
def fv (m : Mly) (s : Int) : List Int := (iD m (dt m) s).1
def ki (m : Mly) (s : Int) : Nat := (iD m (dt m) s).2
theorem xD {m : Mly} (h : K12 m) : dE m = 0 := by
  have := (jg h.ok h.n8).1
  unfold dE; rw [h.ck, if_neg (by simp), if_neg (by omega)]
theorem BB {m : Mly} (h : K12 m) : fm m (dt m) = 0 := by
  have h1 := jg h.ok h.n8
  unfold fm
  rw [h.ck, if_neg (by simp), if_neg]
  exact fun h9 => h9.elim (fun h8 => by omega) (fun h8 => h8 h1.2.1)
theorem Co {m : Mly} (h : K12 m) {s : Int} (h0 : 0 ≤ s) (h1 : s < m.nx.length) : gI m (dt m) s = 0 := by
  unfold gI; rw [BB h, if_neg (by simp), if_neg (by omega)]
theorem v6 {m : Mly} (h : K12 m) {s : Int} (h0 : 0 ≤ s) (h1 : s < m.nx.length) :
    ki m s < (dt m).length ∧ ((dt m).getD (ki m s) nd0).2.1 = -1 ∧ s ∈ ((dt m).getD (ki m s) nd0).1 ∧ ((fv m s).length : Int) ≤ dpT (dt m) ∧ dD m (fv m s) ∧ (fv m s).length ≤ 255 ∧ ((dt m).getD (ki m s) nd0).1.length ≤ 8 := by
  obtain ⟨_, g2, _, g4⟩ := jg h.ok h.n8
  have hs : (rgI m.nx.length).getD s.toNat 0 = s := by
    unfold rgI; rw [List.getD, List.getElem?_map, List.getElem?_range (by omega)]
    show ((s.toNat : Nat) : Int) = s
    omega
  have h2 := oW h.ok (dt m).length _ 0 _ _ _ s.toNat g2 rfl (kQ m) (by rw [di]; omega) (by omega)
  rw [hs] at h2
  obtain ⟨a1, a2, a3, a4, a5, a6, a7⟩ := h2
  refine ⟨a2, a3, a4, ?_, a6, g4 _ s h0 h1, Nat.le_trans a7 h.n8⟩
  unfold dpT
  rw [if_neg (by have : (wdG m (dt m) (dt m).length 0 s).2 < (dt m).length := a2; omega)]
  exact a5
theorem zg {m : Mly} (h : K12 m) {s u : Int} (h0 : 0 ≤ s) (h1 : s < m.nx.length) (h2 : 0 ≤ u) (h3 : u < m.nx.length) (hne : s ≠ u) :
    (ki m s = ki m u → fv m s = fv m u ∧ (m.go s (fv m s)).2 = (m.go u (fv m s)).2 ∧ (m.go s (fv m s)).1 ≠ (m.go u (fv m s)).1) ∧
    (ki m s ≠ ki m u → (m.go s ((fv m s).take (lM (fv m s) (fv m u)))).2 ≠ (m.go u ((fv m u).take (lM (fv m s) (fv m u)))).2) := by
  obtain ⟨_, g2, _, _⟩ := jg h.ok h.n8
  have hs : ∀ s : Int, 0 ≤ s → s < m.nx.length → (rgI m.nx.length).getD s.toNat 0 = s := fun s a b => by
    unfold rgI; rw [List.getD, List.getElem?_map, List.getElem?_range (by omega)]
    show ((s.toNat : Nat) : Int) = s
    omega
  have h4 := xW h.ok (dt m).length _ 0 _ _ _ s.toNat u.toNat g2 rfl (kQ m) (by rw [di]; omega) (by rw [di]; omega) (by omega) (by omega)
  rw [hs s h0 h1, hs u h2 h3] at h4
  exact h4
theorem xV {m : Mly} {w : List Int} (h : dD m w) : ∀ i : Nat, i < w.length → 0 ≤ w.getD i 0 ∧ w.getD i 0 < m.inp := fun i hi => h _ (br hi)
theorem m8 {m : Mly} (h : K12 m) {s : Int} (h0 : 0 ≤ s ∧ s < m.nx.length) {w : List Int} (hw : dD m w) : 0 ≤ (m.go s w).1 ∧ (m.go s w).1 < m.nx.length := by
  have := xK h.ok w s h0 (xV hw)
  exact this.1
theorem BU {m : Mly} (h : K12 m) {p q : Int} (hp : 0 ≤ p ∧ p < m.nx.length) (hq : 0 ≤ q ∧ q < m.nx.length) (hne : p ≠ q) : (seS m m p q).isSome = true := by
  cases hs : seS m m p q with
  | some w => rfl
  | none =>
    exfalso
    have h1 := (z6 h.ok h.ok rfl hp hq).1 hs
    exact hne ((Ax h.ck).2.ds p q hp.1 hp.2 hq.1 hq.2 h1)
theorem yx {m : Mly} (h : K12 m) {s : Int} (h0 : 0 ≤ s ∧ s < m.nx.length) {w : List Int} (hw : dD m w) (hl : w.length ≤ 1024) : fo m s w = 0 := by
  have hi1 := h.ok.i1
  have hi2 := h.ok.i2
  unfold fo
  rw [if_neg (by rw [dv h.ok]; simp), if_neg (by omega)]
  exact z4 hi1 (by omega) ⟨hl, xV hw⟩
end Go.AV
namespace Go.Proofs.Ytoahhklogohehaa
open Go Go.AV
open Nat renaming reduceEqDiff → aa, reduceAdd → V, reduceLeDiff → ad, reduceLT → ag, reduceMul → af, reduceSub → ae
open List renaming set_cons_zero → cK, set_cons_succ → cF, getD_cons_zero → au, length_append → ar, map_cons → aJ, cons_append → aN, map_nil → bz, length_cons → ax, nil_append → b6, take_succ_cons → d6, length_nil → aI, length_map → aw, length_replicate → aB, take_length → aO, mem_cons_self → aV, mem_cons_of_mem → aM
open Int renaming toNat_natCast → ai
theorem zT : type_of% (And.intro Try.ea159 (And.intro Try.el106 (And.intro Try.el107 (And.intro Try.el110 (And.intro Try.el118 (And.intro Try.el129 (And.intro Try.el22 (And.intro Try.el27 (And.intro Try.el41 (And.intro Try.el50 (And.intro Try.el91 (And.intro Try.fl58 (And.intro Try.fl89 (And.intro Try.mk115 (And.intro Try.mk157 (And.intro Try.sa159 (And.intro Try.st109 (And.intro Try.st117 (And.intro Try.st24 (And.intro Try.st29 (And.intro Try.st52 (And.intro Try.st58 (And.intro Try.st62 (And.intro Try.st66 (And.intro Try.st82 (And.intro Try.st84 (And.intro Try.st89 (And.intro Try.td1 (And.intro Try.td102 (And.intro Try.td106 (And.intro Try.td107 (And.intro Try.td109 (And.intro Try.td110 (And.intro Try.td117 (And.intro Try.td118 (And.intro Try.td129 (And.intro Try.td132 (And.intro Try.td159 (And.intro Try.td2 (And.intro Try.td22 (And.intro Try.td24 (And.intro Try.td27 (And.intro Try.td29 (And.intro Try.td3 (And.intro Try.td30 (And.intro Try.td4 (And.intro Try.td41 (And.intro Try.td5 (And.intro Try.td50 (And.intro Try.td52 (And.intro Try.td58 (And.intro Try.td60 (And.intro Try.td62 (And.intro Try.td66 (And.intro Try.td77 (And.intro Try.td80 (And.intro Try.td82 (And.intro Try.td84 (And.intro Try.td89 (And.intro Try.td9 Try.td91)))))))))))))))))))))))))))))))))))))))))))))))))))))))))))) :=
  And.intro Try.ea159 (And.intro Try.el106 (And.intro Try.el107 (And.intro Try.el110 (And.intro Try.el118 (And.intro Try.el129 (And.intro Try.el22 (And.intro Try.el27 (And.intro Try.el41 (And.intro Try.el50 (And.intro Try.el91 (And.intro Try.fl58 (And.intro Try.fl89 (And.intro Try.mk115 (And.intro Try.mk157 (And.intro Try.sa159 (And.intro Try.st109 (And.intro Try.st117 (And.intro Try.st24 (And.intro Try.st29 (And.intro Try.st52 (And.intro Try.st58 (And.intro Try.st62 (And.intro Try.st66 (And.intro Try.st82 (And.intro Try.st84 (And.intro Try.st89 (And.intro Try.td1 (And.intro Try.td102 (And.intro Try.td106 (And.intro Try.td107 (And.intro Try.td109 (And.intro Try.td110 (And.intro Try.td117 (And.intro Try.td118 (And.intro Try.td129 (And.intro Try.td132 (And.intro Try.td159 (And.intro Try.td2 (And.intro Try.td22 (And.intro Try.td24 (And.intro Try.td27 (And.intro Try.td29 (And.intro Try.td3 (And.intro Try.td30 (And.intro Try.td4 (And.intro Try.td41 (And.intro Try.td5 (And.intro Try.td50 (And.intro Try.td52 (And.intro Try.td58 (And.intro Try.td60 (And.intro Try.td62 (And.intro Try.td66 (And.intro Try.td77 (And.intro Try.td80 (And.intro Try.td82 (And.intro Try.td84 (And.intro Try.td89 (And.intro Try.td9 Try.td91)))))))))))))))))))))))))))))))))))))))))))))))))))))))))))
def Mof (d : Int × (Int × (List (List Int) × (List (List Int) × Unit)))) : Mly := ⟨d.1, d.2.1, d.2.2.1, d.2.2.2.1⟩
theorem BC (n : Int) (h0 : 0 ≤ n) (h1 : n ≤ 1000000) : kw Try.prog 88 [.one .nils, .one (.int .i64 n)] (.int .i64) 3 (([] : List Int)) := by
 refine ij Try.func88 rfl (by kernel_rfl) (Nat.le_of_ble_eq_true rfl) rfl fun C hP hN hB => ?_
 replace hN : C.N = 27 := hN
 simp only [bc, V]
 refine ah fun _ k1 => ?_
 refine am hP hN rfl ?_
 (refine aj rfl fun _ k0 => ?_; simp only [zO, zT, acs, reduceCtorEq, aa, V, ad, ag, af, ae]; (repeat refine an ?_); (try refine .inl ?_); apply k0; clear k0; simp only [zP, V])
 refine ao ?_
 apply k1; clear k1; refine kp [0, 1, 4] ?_
 refine ah fun _ k2 => ?_
 refine ah fun _ k3 => ?_
 refine am hP hN rfl ?_
 iterate 2 (refine aj rfl fun _ k0 => ?_; simp only [zO, zT, acs, reduceCtorEq, aa, V, ad, ag, af, ae]; (repeat refine an ?_); (try refine .inl ?_); apply k0; clear k0; simp only [zP, V])
 refine ao ?_
 apply k3; clear k3; refine kp [0, 1, 4, 6] ?_
 refine cd (fun hc4 => ?_) (fun hc4 => ?_)
 · exfalso; (try simp only [zB, reduceCtorEq] at hc4); all_goals (first | (cases hc4; done) | omega | (simp at hc4; done) | (simp_all; done))
 (try simp only [zB, reduceCtorEq] at hc4)
 refine ay ?_
 apply k2; clear k2; refine kp [0, 1, 4, 6] ?_
 refine ah fun _ k5 => ?_
 refine ah fun _ k6 => ?_
 refine am hP hN rfl ?_
 iterate 8 (refine aj rfl fun _ k0 => ?_; simp only [zO, zT, acs, reduceCtorEq, aa, V, ad, ag, af, ae]; (repeat refine an ?_); (try refine .inl ?_); apply k0; clear k0; simp only [zP, V])
 refine ao ?_
 apply k6; clear k6; refine kp [0, 1, 4, 6] ?_
 refine ah fun _ k7 => ?_
 refine am hP hN rfl ?_
 iterate 2 (refine aj rfl fun _ k0 => ?_; simp only [zO, zT, acs, reduceCtorEq, aa, V, ad, ag, af, ae]; (repeat refine an ?_); (try refine .inl ?_); apply k0; clear k0; simp only [zP, V])
 refine ao ?_
 apply k7; clear k7; refine kp [0, 1, 4, 6, 16] ?_
 refine cd (fun hc8 => ?_) (fun hc8 => ?_)
 ·(try simp only [zB, reduceCtorEq] at hc8)
  refine am hP hN rfl ?_
  iterate 3 (refine aj rfl fun _ k0 => ?_; simp only [zO, zT, acs, reduceCtorEq, aa, V, ad, ag, af, ae]; (repeat refine an ?_); (try refine .inl ?_); apply k0; clear k0; simp only [zP, V])
  (refine aj rfl fun _ k0 => ?_; simp only [zE, op1, ev, lkp, d7, ca, cq, fb, eB, cP, db, eH, Nat.div_one, cM, dg, Ty.size, bC, dite_true, hU, bnd, reduceCtorEq, aa, V, ad, ag, af, ae, Try.el41, Try.td3, Try.td41]; (repeat refine an ?_); (try refine .inl ?_); apply k0; clear k0; simp only [zP, V])
  iterate 4 (refine aj rfl fun _ k0 => ?_; simp only [zO, zT, acs, reduceCtorEq, aa, V, ad, ag, af, ae]; (repeat refine an ?_); (try refine .inl ?_); apply k0; clear k0; simp only [zP, V])
  (refine aj rfl fun _ k0 => ?_; simp only [zE, op1, ev, lkp, d7, ca, cq, fb, eB, cP, db, eH, Nat.div_one, cM, dg, Ty.size, bC, dite_true, hU, bnd, reduceCtorEq, aa, V, ad, ag, af, ae, Try.el41, Try.td3, Try.td41]; (repeat refine an ?_); (try refine .inl ?_); apply k0; clear k0; simp only [zP, V])
  (refine aj rfl fun _ k0 => ?_; simp only [zO, zT, acs, reduceCtorEq, aa, V, ad, ag, af, ae]; (repeat refine an ?_); (try refine .inl ?_); apply k0; clear k0; simp only [zP, V])
  refine ao ?_
  apply k5; clear k5; refine kp [0, 1, 4, 6, 16] ?_
  refine ah fun _ k9 => ?_
  first | (refine fP 0 (.int .i64) 3 (by decide) rfl ?_; simp only [ax, aI, aN, b6, Nat.zero_add, V]) | skip
  refine am hP hN rfl ?_
  iterate 2 (refine aj rfl fun _ k0 => ?_; simp only [zO, zT, acs, reduceCtorEq, aa, V, ad, ag, af, ae]; (repeat refine an ?_); (try refine .inl ?_); apply k0; clear k0; simp only [zP, V])
  refine ao ?_
  apply k9; clear k9; refine kp [0, 1, 4, 6, 16] ?_
  refine aE ?_
  refine ⟨by first | exact .inl rfl | exact .inr rfl, _, rfl, _, _, rfl, ?_⟩
  first | rfl | simp
 (try simp only [zB, reduceCtorEq] at hc8)
 refine ay ?_
 apply k5; clear k5; refine kp [0, 1, 4, 6, 16] ?_
 refine ah fun _ k10 => ?_
 first | (refine fP 0 (.int .i64) 3 (by decide) rfl ?_; simp only [ax, aI, aN, b6, Nat.zero_add, V]) | skip
 refine am hP hN rfl ?_
 iterate 2 (refine aj rfl fun _ k0 => ?_; simp only [zO, zT, acs, reduceCtorEq, aa, V, ad, ag, af, ae]; (repeat refine an ?_); (try refine .inl ?_); apply k0; clear k0; simp only [zP, V])
 refine ao ?_
 apply k10; clear k10; refine kp [0, 1, 4, 6, 16] ?_
 refine aE ?_
 refine ⟨by first | exact .inl rfl | exact .inr rfl, _, rfl, _, _, rfl, ?_⟩
 first | rfl | simp
end Go.Proofs.Ytoahhklogohehaa
