/- Contracts of functions of this seat, each out of a walk through its code, and plain facts on what they compute. Conditions: those that each theorem names. -/
import Derived.Test.YtoahhklogohehaaW00
set_option linter.unusedSimpArgs false
set_option linter.unusedVariables false
set_option maxRecDepth 100000
namespace Go.AV
open Nat renaming reduceEqDiff → aa, reduceAdd → V, reduceLeDiff → ad, reduceLT → ag, reduceMul → af, reduceSub → ae
open List renaming set_cons_zero → cD, set_cons_succ → cm, getD_cons_zero → ar, length_append → aq, map_cons → aH, cons_append → aM, map_nil → bh, length_cons → au, nil_append → b6, take_succ_cons → dz, length_nil → aG, length_map → aD, length_replicate → bj, take_length → aI, mem_cons_self → aQ, mem_cons_of_mem → aJ
open Int renaming toNat_natCast → ah
/-plain-/
theorem nA {xs : List Int} : (aC xs).length = xs.length ↔ xs.Nodup := by
  have hu := dn xs
  have hun : (aC xs).Nodup := hu.1.imp fun h e => by omega
  constructor
  · intro he
    by_cases hn : xs.Nodup
    · exact hn
    · exfalso
      have key : ∀ ys : List Int, ¬ ys.Nodup → ∃ zs : List Int, zs.length + 1 = ys.length ∧ ∀ x, x ∈ ys → x ∈ zs := by
        intro ys
        induction ys with
        | nil => intro h; exact absurd List.nodup_nil h
        | cons y ys ih =>
          intro h
          by_cases hy : y ∈ ys
          · exact ⟨ys, rfl, fun x hx => by rcases List.mem_cons.1 hx with rfl | hx <;> assumption⟩
          · have hny : ¬ ys.Nodup := fun h2 => h (List.nodup_cons.2 ⟨hy, h2⟩)
            obtain ⟨zs, h1, h2⟩ := ih hny
            exact ⟨y :: zs, by simp only [au]; omega, fun x hx => by
              rcases List.mem_cons.1 hx with rfl | hx
              · exact aQ ..
              · exact aJ _ (h2 x hx)⟩
      obtain ⟨zs, h1, h2⟩ := key xs hn
      have := dV (aC xs) zs hun fun x hx => h2 x ((hu.2 x).1 hx)
      omega
  · intro hn
    have h1 := dV xs (aC xs) hn fun x hx => (hu.2 x).2 hx
    have h2 := fP xs
    omega
theorem me {xs : List Int} : xs.Nodup ↔ ∀ k j, k < xs.length → j < k → xs.getD k 0 ≠ xs.getD j 0 := by
  constructor
  · intro h k j hk hj e
    have := List.pairwise_iff_getElem.1 h j k (by omega) hk hj
    apply this
    simpa [List.getD, hk, show j < xs.length by omega] using e.symm
  · intro h
    refine List.pairwise_iff_getElem.2 fun j k hj hk hjk e => h k j hk hjk ?_
    simpa [List.getD, hk, hj] using e.symm
def nd0 : b7 := ([], (0, ([], ())))
def kd0 : dN := (0, (0, ()))
def fh (m : Mly) (rec : Nat → List Int → List Int → Option Nat) (ini cur : List Int) (x : b7) (e : Option Nat) (i : Nat) : Option Nat :=
  match e with
  | none => none
  | some n => if (x.2.2.1.getD i kd0).1 = (aC (ouL m cur x.2.1)).getD i 0 ∧ (x.2.2.1.getD i kd0).2.1 = (n : Int) then
      rec n (bV m ini cur x.2.1 cur.length ((aC (ouL m cur x.2.1)).getD i 0)) (bB m cur x.2.1 cur.length ((aC (ouL m cur x.2.1)).getD i 0)) else none
def rtF (m : Mly) (T : List b7) : Nat → Nat → List Int → List Int → Option Nat
  | 0, _, _, _ => none
  | f + 1, p, ini, cur =>
    if p < T.length ∧ (T.getD p nd0).1 = ini ∧ cur.Nodup then
      (if (T.getD p nd0).2.1 = -1 then (if (T.getD p nd0).2.2.1.length = 0 then some (p + 1) else none) else
       if 0 ≤ (T.getD p nd0).2.1 ∧ (T.getD p nd0).2.1 < m.inp ∧ (aC (ouL m cur (T.getD p nd0).2.1)).length = (T.getD p nd0).2.2.1.length then
         (List.range (T.getD p nd0).2.2.1.length).foldl (fh m (rtF m T f) ini cur (T.getD p nd0)) (some (p + 1)) else none)
    else none
theorem jh {m : Mly} {rec : Nat → List Int → List Int → Option Nat} {ini cur : List Int} {x : b7} : ∀ is : List Nat, is.foldl (fh m rec ini cur x) none = none
  | [] => rfl
  | i :: is => jh is
theorem iQ {m : Mly} {T : List b7} : ∀ {f p : Nat} {ini cur : List Int} {n : Nat}, rtF m T f p ini cur = some n → p < n ∧ n ≤ T.length
  | 0, _, _, _, _, h => by cases h
  | f + 1, p, ini, cur, n, h => by
    rw [rtF] at h
    split at h
    · rename_i h1
      split at h
      · split at h
        · simp only [Option.some.injEq] at h; omega
        · cases h
      · split at h
        · have key : ∀ (is : List Nat) (e : Nat), p < e ∧ e ≤ T.length → is.foldl (fh m (rtF m T f) ini cur (T.getD p nd0)) (some e) = some n → p < n ∧ n ≤ T.length := by
            intro is
            induction is with
            | nil => intro e he h2; simp only [List.foldl_nil, Option.some.injEq] at h2; omega
            | cons i is ih =>
              intro e he h2
              rw [List.foldl_cons] at h2
              unfold fh at h2
              simp only at h2
              split at h2
              · cases hr : rtF m T f e (bV m ini cur (T.getD p nd0).2.1 cur.length ((aC (ouL m cur (T.getD p nd0).2.1)).getD i 0)) (bB m cur (T.getD p nd0).2.1 cur.length ((aC (ouL m cur (T.getD p nd0).2.1)).getD i 0)) with
                | none =>
                  rw [hr] at h2
                  have := jh (m := m) (rec := rtF m T f) (ini := ini) (cur := cur) (x := T.getD p nd0) is
                  unfold fh at this
                  rw [this] at h2; cases h2
                | some e2 =>
                  rw [hr] at h2
                  have := iQ hr
                  exact ih e2 ⟨by omega, by omega⟩ (by unfold fh; exact h2)
              · have := jh (m := m) (rec := rtF m T f) (ini := ini) (cur := cur) (x := T.getD p nd0) is
                unfold fh at this
                rw [this] at h2; cases h2
          exact key _ _ ⟨by omega, by omega⟩ h
        · cases h
    · cases h
theorem kr {m : Mly} {T : List b7} {f p : Nat} {ini cur : List Int} (h : ¬ (p < T.length ∧ (T.getD p nd0).1 = ini ∧ cur.Nodup)) : rtF m T (f + 1) p ini cur = none := by
  rw [rtF, if_neg h]
theorem d4 {m : Mly} {T : List b7} {f p : Nat} {ini cur : List Int} (h : p < T.length ∧ (T.getD p nd0).1 = ini ∧ cur.Nodup) (h2 : (T.getD p nd0).2.1 = -1) : rtF m T (f + 1) p ini cur = if (T.getD p nd0).2.2.1.length = 0 then some (p + 1) else none := by
  rw [rtF, if_pos h, if_pos h2]
theorem jG {m : Mly} {T : List b7} {f p : Nat} {ini cur : List Int} (h2 : ¬ (T.getD p nd0).2.1 = -1) (h3 : ¬ (0 ≤ (T.getD p nd0).2.1 ∧ (T.getD p nd0).2.1 < m.inp ∧ (aC (ouL m cur (T.getD p nd0).2.1)).length = (T.getD p nd0).2.2.1.length)) : rtF m T (f + 1) p ini cur = none := by
  by_cases h : p < T.length ∧ (T.getD p nd0).1 = ini ∧ cur.Nodup
  · rw [rtF, if_pos h, if_neg h2, if_neg h3]
  · exact kr h
theorem kq {m : Mly} {T : List b7} {f p : Nat} {ini cur : List Int} (h : p < T.length ∧ (T.getD p nd0).1 = ini ∧ cur.Nodup) (h2 : ¬ (T.getD p nd0).2.1 = -1) (h3 : 0 ≤ (T.getD p nd0).2.1 ∧ (T.getD p nd0).2.1 < m.inp ∧ (aC (ouL m cur (T.getD p nd0).2.1)).length = (T.getD p nd0).2.2.1.length) :
    rtF m T (f + 1) p ini cur = (List.range (T.getD p nd0).2.2.1.length).foldl (fh m (rtF m T f) ini cur (T.getD p nd0)) (some (p + 1)) := by
  rw [rtF, if_pos h, if_neg h2, if_pos h3]
theorem jU {m : Mly} {rec : Nat → List Int → List Int → Option Nat} {ini cur : List Int} {x : b7} {i n e : Nat} {s : Option Nat} (hi : i < n) (h : (List.range i).foldl (fh m rec ini cur x) s = some e) (h2 : fh m rec ini cur x (some e) i = none) : (List.range n).foldl (fh m rec ini cur x) s = none := by
  have e9 : List.range n = List.range (i + 1) ++ (List.range (n - (i + 1))).map ((i + 1) + ·) := by rw [← List.range_add]; congr 1; omega
  rw [e9, List.foldl_append, List.range_succ, List.foldl_append, h, List.foldl_cons, List.foldl_nil, h2]
  exact jh _
theorem lh {m : Mly} {rec : Nat → List Int → List Int → Option Nat} {ini cur : List Int} {x : b7} {i e : Nat} {s r : Option Nat} (h : (List.range i).foldl (fh m rec ini cur x) s = some e) (h2 : fh m rec ini cur x (some e) i = r) : (List.range (i + 1)).foldl (fh m rec ini cur x) s = r := by
  rw [List.range_succ, List.foldl_append, h, List.foldl_cons, List.foldl_nil, h2]
theorem kb {m : Mly} {rec : Nat → List Int → List Int → Option Nat} {ini cur : List Int} {x : b7} {e i : Nat} (h : (x.2.2.1.getD i kd0).1 = (aC (ouL m cur x.2.1)).getD i 0 ∧ (x.2.2.1.getD i kd0).2.1 = (e : Int)) :
    fh m rec ini cur x (some e) i = rec e (bV m ini cur x.2.1 cur.length ((aC (ouL m cur x.2.1)).getD i 0)) (bB m cur x.2.1 cur.length ((aC (ouL m cur x.2.1)).getD i 0)) := if_pos h
theorem p5 {m : Mly} {rec : Nat → List Int → List Int → Option Nat} {ini cur : List Int} {x : b7} {e i : Nat} (h : ¬ ((x.2.2.1.getD i kd0).1 = (aC (ouL m cur x.2.1)).getD i 0 ∧ (x.2.2.1.getD i kd0).2.1 = (e : Int))) : fh m rec ini cur x (some e) i = none := if_neg h
def rtI (o : Option Nat) : Int := match o with | some n => (n : Int) | none => -1
/-plain-/
theorem aB : (([], (0, ([], ()))) : b7) = nd0 := rfl
theorem az : ((0, (0, ())) : dN) = kd0 := rfl
def rtP (m : Mly) (T : List b7) (f p : Nat) (ini cur : List Int) : Int :=
  match rtF m T f p ini cur with
  | some n => (n : Int)
  | none => if (p < T.length ∧ (T.getD p nd0).1 = ini ∧ cur.Nodup) ∧ (T.getD p nd0).2.1 = -1 then (p : Int) + 1 else 0
theorem da {m : Mly} {T : List b7} {f p n : Nat} {ini cur : List Int} (h : rtF m T f p ini cur = some n) : rtP m T f p ini cur = (n : Int) := by unfold rtP; rw [h]
theorem jb {m : Mly} {T : List b7} {f p : Nat} {ini cur : List Int} (h : rtF m T f p ini cur = none) (h2 : ¬ ((p < T.length ∧ (T.getD p nd0).1 = ini ∧ cur.Nodup) ∧ (T.getD p nd0).2.1 = -1)) : rtP m T f p ini cur = 0 := by unfold rtP; rw [h]; exact if_neg h2
theorem gl {m : Mly} {T : List b7} {f p : Nat} {ini cur : List Int} (h : rtF m T f p ini cur = none) (h2 : (p < T.length ∧ (T.getD p nd0).1 = ini ∧ cur.Nodup) ∧ (T.getD p nd0).2.1 = -1) : rtP m T f p ini cur = (p : Int) + 1 := by unfold rtP; rw [h]; exact if_pos h2
structure TR12 (T : List b7) : Prop where
  len : T.length ≤ 4096
/-plain-/
def eX (T : List b7) (rec : Nat → Int) (p : Nat) (n : Int) (k : dN) : Int := if (p : Int) < k.2.1 ∧ k.2.1 < T.length then max n (1 + rec k.2.1.toNat) else n
def dpF (T : List b7) : Nat → Nat → Int
  | 0, _ => 0
  | f + 1, p => (T.getD p nd0).2.2.1.foldl (eX T (dpF T f) p) 0
theorem kZ {T : List b7} {r1 r2 : Nat → Int} {p : Nat} (h : ∀ k, p < k → k < T.length → r1 k = r2 k) : ∀ (K : List dN) (n : Int), K.foldl (eX T r1 p) n = K.foldl (eX T r2 p) n
  | [], _ => rfl
  | k :: K, n => by
    have e : eX T r1 p n k = eX T r2 p n k := by
      unfold eX
      by_cases hk : (p : Int) < k.2.1 ∧ k.2.1 < T.length
      · rw [if_pos hk, if_pos hk, h _ (by omega) (by omega)]
      · rw [if_neg hk, if_neg hk]
    rw [List.foldl_cons, List.foldl_cons, e, kZ h K]
theorem rM {T : List b7} : ∀ (f g p : Nat), p < T.length → T.length ≤ f + p → T.length ≤ g + p → dpF T f p = dpF T g p
  | 0, _, p, h, h1, _ => by omega
  | f + 1, 0, p, h, _, h2 => by omega
  | f + 1, g + 1, p, h, h1, h2 => kZ (fun k hk hl => rM f g k hl (by omega) (by omega)) _ _
theorem mP {T : List b7} {r : Nat → Int} {p : Nat} (hp : p < T.length) (h : ∀ k, p < k → k < T.length → 0 ≤ r k ∧ r k + k < T.length) : ∀ (K : List dN) (n : Int), 0 ≤ n ∧ n + p < T.length → 0 ≤ K.foldl (eX T r p) n ∧ K.foldl (eX T r p) n + p < T.length
  | [], _, hn => hn
  | k :: K, n, hn => by
    rw [List.foldl_cons]
    refine mP hp h K _ ?_
    unfold eX
    split
    · rename_i hk
      have := h k.2.1.toNat (by omega) (by omega)
      omega
    · exact hn
theorem ur {T : List b7} : ∀ (f p : Nat), p < T.length → T.length ≤ f + p → 0 ≤ dpF T f p ∧ dpF T f p + p < T.length
  | 0, p, h, h1 => by omega
  | f + 1, p, h, h1 => mP h (fun k hk hl => ur f k hl (by omega)) _ _ ⟨Int.le_refl _, by omega⟩
def dpA (T : List b7) (p : Nat) : Int := dpF T (T.length - p) p
theorem zQ {T : List b7} {p : Nat} (h : p < T.length) : dpA T p = (T.getD p nd0).2.2.1.foldl (eX T (dpA T) p) 0 := by
  show dpF T (T.length - p) p = _
  rw [show T.length - p = (T.length - p - 1) + 1 by omega]
  exact kZ (fun k hk hl => rM _ _ k hl (by omega) (by omega)) _ _
theorem th {T : List b7} {p : Nat} (h : p < T.length) : 0 ≤ dpA T p ∧ dpA T p + p < T.length := ur _ _ h (by omega)
theorem yd {K : List dN} {i : Nat} (h : i < K.length) : K.take (i + 1) = K.take i ++ [K.getD i kd0] := by
  rw [List.take_add_one]; simp [List.getD, h]
theorem zy {T : List b7} {r : Nat → Int} {p i : Nat} {K : List dN} (h : i < K.length) : (K.take (i + 1)).foldl (eX T r p) 0 = eX T r p ((K.take i).foldl (eX T r p) 0) (K.getD i kd0) := by
  rw [yd h, List.foldl_append]; rfl
def dpT (T : List b7) : Int := if T.length = 0 then 0 else dpA T 0
def dpV (T : List b7) (p : Nat) (x : Int) (q : Nat) : Int := if q < p then 0 else if q = p then x else if q < T.length then dpA T q else 0
def dpL (T : List b7) (p : Nat) (x : Int) : List Int := (List.range (T.length + 1)).map (dpV T p x)
theorem dg (T : List b7) (p : Nat) (x : Int) : (dpL T p x).length = T.length + 1 := by simp [dpL]
theorem mv (T : List b7) (p : Nat) (x : Int) (i : Nat) : (dpL T p x)[i]? = if i < T.length + 1 then some (dpV T p x i) else none := by
  unfold dpL
  rw [List.getElem?_map]
  by_cases h : i < T.length + 1
  · rw [if_pos h, List.getElem?_range h]; rfl
  · rw [if_neg h, List.getElem?_eq_none (by simpa using h)]; rfl
theorem yV {T : List b7} {p i : Nat} (h : i ≤ T.length) (x : Int) : (dpL T p x).getD i 0 = dpV T p x i := by
  rw [List.getD, mv, if_pos (by omega)]; rfl
theorem oT {T : List b7} {p : Nat} (h : p ≤ T.length) (x : Int) : (dpL T p x).getD p 0 = x := by
  rw [yV h]; unfold dpV; rw [if_neg (by omega), if_pos rfl]
theorem zY {T : List b7} {p k : Nat} (h : p < k) (hk : k < T.length) (x : Int) : (dpL T p x).getD k 0 = dpA T k := by
  rw [yV (by omega)]; unfold dpV; rw [if_neg (by omega), if_neg (by omega), if_pos hk]
theorem zh {T : List b7} {p : Nat} (h : p ≤ T.length) (x y : Int) : (dpL T p x).set p y = dpL T p y := by
  apply List.ext_getElem?
  intro i
  rw [List.getElem?_set, mv, mv, dg]
  by_cases e : p = i
  · subst e
    rw [if_pos rfl, if_pos (by omega), if_pos (by omega)]
    unfold dpV; rw [if_neg (by omega), if_pos rfl]
  · rw [if_neg e]
    have : dpV T p x i = dpV T p y i := by
      unfold dpV
      by_cases e2 : i < p
      · rw [if_pos e2, if_pos e2]
      · rw [if_neg e2, if_neg e2, if_neg (fun h : i = p => e h.symm), if_neg (fun h : i = p => e h.symm)]
    rw [this]
theorem x0 {T : List b7} {p : Nat} (h : p + 1 ≤ T.length) : dpL T (p + 1) (if p + 1 = T.length then 0 else dpA T (p + 1)) = dpL T p 0 := by
  apply List.ext_getElem?
  intro i
  rw [mv, mv]
  have : dpV T (p + 1) (if p + 1 = T.length then 0 else dpA T (p + 1)) i = dpV T p 0 i := by
    unfold dpV
    by_cases e : i < p
    · rw [if_pos (show i < p + 1 by omega), if_pos e]
    · by_cases e2 : i = p
      · subst e2; rw [if_pos (show i < i + 1 by omega), if_neg e, if_pos rfl]
      · by_cases e3 : i = p + 1
        · subst e3
          rw [if_neg (show ¬ p + 1 < p + 1 by omega), if_pos rfl, if_neg e, if_neg e2]
          by_cases e4 : p + 1 = T.length
          · rw [if_pos e4, if_neg (by omega)]
          · rw [if_neg e4, if_pos (by omega)]
        · rw [if_neg (show ¬ i < p + 1 by omega), if_neg e3, if_neg e, if_neg e2]
  rw [this]
theorem z7 (T : List b7) : dpL T T.length 0 = List.replicate (T.length + 1) 0 := by
  apply List.ext_getElem?
  intro i
  rw [mv, List.getElem?_replicate]
  by_cases h : i < T.length + 1
  · rw [if_pos h, if_pos h]
    unfold dpV
    by_cases e : i < T.length
    · rw [if_pos e]
    · rw [if_neg e, if_pos (by omega)]
  · rw [if_neg h, if_neg h]
/-plain-/
/-plain-/
def Bm (m : Mly) (cl : List Int) : Bool := if AD m cl = 0 then (Bq m cl).isSome else false
/-plain-/
def SYM (n : Int) (w : List Int) : Prop := ∀ a, a ∈ w → 0 ≤ a ∧ a < n
structure SHW (m : Mly) (cl : List Int) (u v : List Int) : Prop where
  su : SYM m.inp u
  sv : SYM m.inp v
  lu : u.length ≤ 200
  lv : v.length = u.length
  pos : 0 < u.length
  ne : (m.go m.st u).2 ≠ (m.go m.st v).2
  im : u.map (fun a => cl.getD a.toNat 0) = v.map fun a => cl.getD a.toNat 0
theorem w6 {n i : Nat} : (List.replicate n (0 : Int)).getD i 0 = 0 := by
  by_cases h : i < n
  · simp [List.getD, h]
  · simp [List.getD, Nat.le_of_not_lt h]
/-plain-/
def kW (m : Mly) : List Int := if aR m = 0 then (nmS (wC m) m.inp.toNat).1 else []
def B6 (m : Mly) : Int := if aR m = 0 then ((nmS (wC m) m.inp.toNat).2.length : Int) else 0
/-plain-/
structure RUN (m : Mly) : Prop where
  len : (kW m).length = m.inp.toNat
  ce : rG (kW m) = 0
  ck : AB (kW m) = B6 m
  eq : ∀ c d : Nat, c < m.inp.toNat → d < m.inp.toNat → ((kW m).getD c 0 = (kW m).getD d 0 ↔ wC m c d = true)
  ch : AD m (kW m) = 0
  no : Bm m (kW m) = false
/-plain-/
theorem tz {cl : List Int} (hb : ∀ q, q < cl.length → iq cl q = false) : ∀ k, k ≤ cl.length → ∀ v, 0 ≤ v → v < cN cl k → ∃ q, q < k ∧ cl.getD q 0 = v
  | 0, _, v, h0, h1 => by simp only [cN] at h1; omega
  | k + 1, hk, v, h0, h1 => by
    have h2 := hb k (by omega)
    simp only [iq, Bool.or_eq_false_iff, decide_eq_false_iff_not] at h2
    simp only [cN] at h1
    by_cases e : v < cN cl k
    · obtain ⟨q, q1, q2⟩ := tz hb k (by omega) v h0 e
      exact ⟨q, by omega, q2⟩
    · exact ⟨k, by omega, by omega⟩
theorem zu (cl : List Int) : ∀ k q, q < k → cl.getD q 0 < cN cl k
  | 0, q, h => by omega
  | k + 1, q, h => by
    simp only [cN]
    by_cases e : q = k
    · rw [e]; omega
    · have := zu cl k q (by omega); omega
theorem rX (cl : List Int) : ∀ k, 0 ≤ cN cl k
  | 0 => Int.le_refl _
  | k + 1 => by have := rX cl k; simp only [cN]; omega
structure STD (m : Mly) (C : List Int) (j : Nat) : Prop where
  len : C.length = m.inp.toNat
  ce : rG C = 0
  co : ∀ c d : Nat, c < m.inp.toNat → d < m.inp.toNat → wC m c d = true → C.getD c 0 = C.getD d 0
  ct : (j : Int) + 1 ≤ AB C
/-plain-/
theorem oB (m : Mly) (cl : List Int) : ∀ k, k ≤ m.nx.length → cN (m.nextL cl) k = ((cU (m.sig cl) k).length : Int) ∧ ∀ q, q < k → iq (m.nextL cl) q = false
  | 0, _ => ⟨by simp [cN, cU], fun q h => by omega⟩
  | k + 1, h => by
    obtain ⟨i1, i2⟩ := oB m cl k (by omega)
    have hv := iT (cl := cl) (s := k) (by omega : k < m.nx.length)
    by_cases hs : m.sig cl k ∈ cU (m.sig cl) k
    · have h1 := mO (cl := cl) (by omega : k < m.nx.length) hs
      have h2 := gP hs
      rw [h1] at hv
      refine ⟨?_, fun q hq => ?_⟩
      · rw [dp, fZ hs]; simp only [cN]; omega
      · by_cases e : q = k
        · subst e; exact pV (by omega) (by omega)
        · exact i2 q (by omega)
    · have h1 := ku (cl := cl) (by omega : k < m.nx.length) hs
      rw [h1] at hv
      refine ⟨?_, fun q hq => ?_⟩
      · rw [dp, eY hs, aq]; simp only [cN, au, aG]; omega
      · by_cases e : q = k
        · subst e; exact pV (by omega) (by omega)
        · exact i2 q (by omega)
theorem gA {m : Mly} (hm : MOK m) : ∀ q, q < m.eqc.length → iq m.eqc q = false := by
  obtain ⟨j, h1, h2, h3⟩ := jW hm
  rw [h1, jI]
  cases j with
  | zero => exact fun q hq => pV (by show 0 ≤ (List.replicate _ (0 : Int)).getD q 0; rw [w6]; omega) (by show (List.replicate _ (0 : Int)).getD q 0 ≤ _; rw [w6]; exact rX _ _)
  | succ i => exact (oB m (m.cls i) m.nx.length (Nat.le_refl _)).2
def dD (c : List Int) (k : Nat) : List Nat := (List.range k).filter fun s => decide (c.getD s 0 = cN c s)
theorem mm {c : List Int} {k : Nat} (h : c.getD k 0 = cN c k) : dD c (k + 1) = dD c k ++ [k] := by
  unfold dD; rw [List.range_succ, List.filter_append]; simp only [List.filter_cons, List.filter_nil, h, decide_true, if_true]
theorem mU {c : List Int} {k : Nat} (h : ¬ c.getD k 0 = cN c k) : dD c (k + 1) = dD c k := by
  unfold dD; rw [List.range_succ, List.filter_append]; simp only [List.filter_cons, List.filter_nil, decide_eq_false h, Bool.false_eq_true, if_false, List.append_nil]
structure REP (c : List Int) (k : Nat) : Prop where
  len : ((dD c k).length : Int) = cN c k
  at_ : ∀ r, r < (dD c k).length → (dD c k).getD r 0 < k ∧ c.getD ((dD c k).getD r 0) 0 = r
theorem uN {xs ys : List Nat} {i : Nat} (h : i < xs.length) : (xs ++ ys).getD i 0 = xs.getD i 0 := by simp [List.getD, List.getElem?_append_left h]
theorem sr {c : List Int} (hb : ∀ q, q < c.length → iq c q = false) : ∀ k, k ≤ c.length → REP c k
  | 0, _ => ⟨rfl, fun r h => by simp [dD] at h⟩
  | k + 1, h => by
    have ih := sr hb k (by omega)
    have h1 := hb k (by omega)
    simp only [iq, Bool.or_eq_false_iff, decide_eq_false_iff_not] at h1
    have hl := ih.len
    by_cases e : c.getD k 0 = cN c k
    · rw [show REP c (k + 1) = REP c (k + 1) from rfl]
      refine ⟨?_, fun r hr => ?_⟩
      · rw [mm e, aq]; simp only [au, aG, cN]; omega
      · rw [mm e] at hr ⊢
        rw [aq] at hr; simp only [au, aG] at hr
        by_cases e2 : r = (dD c k).length
        · have : (dD c k ++ [k]).getD r 0 = k := by subst e2; simp [List.getD]
          rw [this]; exact ⟨by omega, by omega⟩
        · rw [uN (by omega)]
          have := ih.at_ r (by omega)
          exact ⟨by omega, this.2⟩
    · refine ⟨?_, fun r hr => ?_⟩
      · rw [mU e]; simp only [cN]; omega
      · rw [mU e] at hr ⊢
        have := ih.at_ r hr
        exact ⟨by omega, this.2⟩
def Mly.f (t : Mly) (x : Int) : Int := t.eqc.getD x.toNat 0
def Mly.reps (t : Mly) : List Nat := dD t.eqc t.nx.length
def Mly.qm (t : Mly) : Mly := ⟨t.inp, 0, t.reps.map (fun s => (t.nx.getD s []).map t.f), t.reps.map fun s => t.ot.getD s []⟩
theorem gC {t : Mly} (ht : MOK t) : REP t.eqc t.nx.length := by
  have hl := (f0 ht).len
  have := sr (gA ht) t.nx.length (by omega)
  exact this
theorem oQ (t : Mly) : t.qm.nx.length = t.reps.length := by simp [Mly.qm]
theorem vt {t : Mly} {r : Nat} (h : r < t.reps.length) : t.qm.nx.getD r [] = (t.nx.getD (t.reps.getD r 0) []).map t.f := by
  show (t.reps.map _).getD r [] = _
  rw [eG _ 0 _ h]
theorem vr {t : Mly} {r : Nat} (h : r < t.reps.length) : t.qm.ot.getD r [] = t.ot.getD (t.reps.getD r 0) [] := by
  show (t.reps.map _).getD r [] = _
  rw [eG _ 0 _ h]
theorem mN {t : Mly} (ht : MOK t) {s : Int} (h0 : 0 ≤ s) (h1 : s < t.nx.length) : 0 ≤ t.f s ∧ t.f s < t.reps.length := by
  have hl := (gC ht).len
  have := zu t.eqc t.nx.length s.toNat (by omega)
  have h2 := (f0 ht).rng s.toNat (by omega)
  unfold Mly.f Mly.reps
  omega
theorem B7 {t : Mly} (ht : MOK t) {s : Int} (h0 : 0 ≤ s) (h1 : s < t.nx.length) : t.reps.getD (t.f s).toNat 0 < t.nx.length ∧ t.f (t.reps.getD (t.f s).toNat 0 : Nat) = t.f s := by
  have hf := mN ht h0 h1
  have := (gC ht).at_ (t.f s).toNat (by have := hf.2; unfold Mly.reps at this; omega)
  refine ⟨this.1, ?_⟩
  show t.eqc.getD ((t.reps.getD (t.f s).toNat 0 : Nat) : Int).toNat 0 = _
  rw [ah]
  have h2 := this.2
  unfold Mly.reps
  rw [h2]; omega
theorem zo {t : Mly} (ht : MOK t) : MOK t.qm := by
  have hq := oQ t
  have hr := gC ht
  have hn1 := ht.n1; have hn2 := ht.n2
  have h0 := mN ht (s := 0) (by omega) (by omega)
  have hle : t.reps.length ≤ t.nx.length := by
    unfold Mly.reps dD
    exact Nat.le_trans (List.length_filter_le _ _) (by simp)
  have hol : t.qm.ot.length = t.reps.length := by simp [Mly.qm]
  have hat : ∀ r, r < t.reps.length → t.reps.getD r 0 < t.nx.length := fun r h => (hr.at_ r h).1
  refine ⟨ht.i1, ht.i2, by omega, by omega, Int.le_refl 0, by show (0 : Int) < _; omega, by omega, fun s hs => ?_, fun s hs => ?_, fun s a hs ha => ?_, fun s a hs ha => ?_⟩
  · rw [vt (by omega), aD]
    exact ht.rl _ (hat s (by omega))
  · rw [vr (by omega)]
    exact ht.ql _ (hat s (by omega))
  · have ha' : (a : Int) < t.inp := ha
    have h1 := ht.rl _ (hat s (by omega))
    rw [vt (by omega), eG t.f 0 0 (by omega)]
    have h2 := ht.nr _ a (hat s (by omega)) ha'
    have := mN ht h2.1 h2.2
    omega
  · rw [vr (by omega)]
    exact ht.or _ a (hat s (by omega)) ha
theorem wK {t : Mly} (ht : MOK t) {s a : Int} (h0 : 0 ≤ s) (h1 : s < t.nx.length) (ha : 0 ≤ a ∧ a < t.inp) : t.qm.out (t.f s) a = t.out s a ∧ t.qm.nxt (t.f s) a = t.f (t.nxt s a) := by
  have hf := mN ht h0 h1
  obtain ⟨r1, r2⟩ := B7 ht h0 h1
  have e : t.eqc.getD (t.reps.getD (t.f s).toNat 0) 0 = t.eqc.getD s.toNat 0 := by
    have := r2
    unfold Mly.f at this
    rw [ah] at this
    exact this
  have hst := (f0 ht).step _ s.toNat r1 (by omega) e a.toNat (by omega)
  have hrl := ht.rl _ r1
  constructor
  · show (t.qm.ot.getD (t.f s).toNat []).getD a.toNat 0 = _
    rw [vr (by omega), hst.1]; rfl
  · show (t.qm.nx.getD (t.f s).toNat []).getD a.toNat 0 = _
    rw [vt (by omega), eG t.f 0 0 (by omega)]
    exact hst.2
theorem wj {t : Mly} (ht : MOK t) : ∀ (w : List Int) (s : Int), 0 ≤ s → s < t.nx.length → (∀ i : Nat, i < w.length → 0 ≤ w.getD i 0 ∧ w.getD i 0 < t.inp) → (t.qm.go (t.f s) w).2 = (t.go s w).2
  | [], s, _, _, _ => rfl
  | a :: w, s, h0, h1, hw => by
    obtain ⟨ha, hw2⟩ := ow hw
    obtain ⟨e1, e2⟩ := wK ht h0 h1 ha
    rw [fw, fw, e1, e2]
    have hn := ht.nr s.toNat a.toNat (by omega) (by omega)
    have := wj ht w (t.nxt s a) hn.1 hn.2 hw2
    rw [this]
theorem Bp {t : Mly} (ht : MOK t) : ∀ i j : Int, 0 ≤ i → i < t.qm.nx.length → 0 ≤ j → j < t.qm.nx.length → EQV t.qm i j → i = j := by
  intro i j i0 i1 j0 j1 h
  have hq := oQ t
  have ri := (gC ht).at_ i.toNat (by unfold Mly.reps at hq; omega)
  have rj := (gC ht).at_ j.toNat (by unfold Mly.reps at hq; omega)
  have fi : t.f (((dD t.eqc t.nx.length).getD i.toNat 0 : Nat) : Int) = i := by unfold Mly.f; rw [ah, ri.2]; omega
  have fj : t.f (((dD t.eqc t.nx.length).getD j.toNat 0 : Nat) : Int) = j := by unfold Mly.f; rw [ah, rj.2]; omega
  have hv : EQV t (((dD t.eqc t.nx.length).getD i.toNat 0 : Nat) : Int) (((dD t.eqc t.nx.length).getD j.toNat 0 : Nat) : Int) := fun w hw => by
    have g1 := wj ht w (((dD t.eqc t.nx.length).getD i.toNat 0 : Nat) : Int) (Int.natCast_nonneg _) (by have := ri.1; omega) hw
    have g2 := wj ht w (((dD t.eqc t.nx.length).getD j.toNat 0 : Nat) : Int) (Int.natCast_nonneg _) (by have := rj.1; omega) hw
    rw [fi] at g1; rw [fj] at g2
    rw [← g1, ← g2]
    exact h w hw
  have := (ly ht (Int.natCast_nonneg _) (by have := ri.1; omega) (Int.natCast_nonneg _) (by have := rj.1; omega)).2 hv
  rw [← fi, ← fj]; exact this
/-plain-/
abbrev PP := Int × Int
abbrev SYS := PP → Nat → PP × Int
def d0 : PP := (0, 0)
def bL (F : SYS) (p : PP) (l : List PP) (x : Nat) : List PP := (List.range x).foldl (fun l y => fW l (F p y).1) l
def bN (F : SYS) (p : PP) (l : List PP) (x : Nat) : List Int := (List.range x).map fun y => (pos (bL F p l y) (F p y).1 : Int)
def bO (F : SYS) (p : PP) (x : Nat) : List Int := (List.range x).map fun y => (F p y).2
def bX (F : SYS) (p : PP) (l : List PP) (y : Nat) : Bool := decide (128 < (bL F p l (y + 1)).length) || decide (1048576 < (F p y).2)
abbrev BST := List PP × (List (List Int) × List (List Int))
def bA (F : SYS) (n i : Nat) (s : BST) : BST := (bL F (s.1.getD i d0) s.1 n, s.2.1 ++ [bN F (s.1.getD i d0) s.1 n], s.2.2 ++ [bO F (s.1.getD i d0) n])
def bF (F : SYS) (n : Nat) : Nat → Nat → BST → Option BST
  | 0, _, _ => none
  | f + 1, i, s => if i < s.1.length then if (List.range n).any (bX F (s.1.getD i d0) s.1) = true then none else bF F n f (i + 1) (bA F n i s) else some s
def bR (F : SYS) (n : Nat) (p0 : PP) : Option BST := bF F n 130 0 ([p0], [], [])
theorem jz (F : SYS) (p : PP) (l : List PP) (x : Nat) : bL F p l (x + 1) = fW (bL F p l x) (F p x).1 := by
  unfold bL; rw [List.range_succ, List.foldl_append]; rfl
theorem rU {α : Type} [DecidableEq α] (l : List α) (x : α) : ∃ k, fW l x = l ++ k := vx [x] l
theorem lX (F : SYS) (p : PP) (l : List PP) : ∀ x, ∃ k, bL F p l x = l ++ k
  | 0 => ⟨[], by simp [bL]⟩
  | x + 1 => by
    obtain ⟨k, e⟩ := lX F p l x
    obtain ⟨k', e'⟩ := rU (bL F p l x) (F p x).1
    exact ⟨k ++ k', by rw [jz, e', e, List.append_assoc]⟩
theorem pC (F : SYS) (p : PP) (l : List PP) (x : Nat) : ∀ d, ∃ k, bL F p l (x + d) = bL F p l x ++ k
  | 0 => ⟨[], by simp⟩
  | d + 1 => by
    obtain ⟨k, e⟩ := pC F p l x d
    obtain ⟨k', e'⟩ := rU (bL F p l (x + d)) (F p (x + d)).1
    exact ⟨k ++ k', by rw [← Nat.add_assoc, jz, e', e, List.append_assoc]⟩
theorem xZ (F : SYS) (p : PP) (l : List PP) (x : Nat) : l.length ≤ (bL F p l x).length := by
  obtain ⟨k, e⟩ := lX F p l x
  rw [e, aq]; omega
theorem p7 (F : SYS) (p : PP) {l : List PP} (x : Nat) {i : Nat} (h : i < l.length) : (bL F p l x).getD i d0 = l.getD i d0 := by
  obtain ⟨k, e⟩ := lX F p l x
  rw [e]; simp [List.getD, List.getElem?_append_left h]
theorem yQ (F : SYS) (p : PP) (l : List PP) {x y : Nat} (h : y < x) : (F p y).1 ∈ bL F p l x := by
  obtain ⟨k, e⟩ := pC F p l (y + 1) (x - (y + 1))
  rw [show x = y + 1 + (x - (y + 1)) by omega, e, List.mem_append, jz, rh]
  exact .inl (.inr rfl)
theorem qE (F : SYS) (p : PP) {l : List PP} (h : l.Nodup) : ∀ x, (bL F p l x).Nodup
  | 0 => by simpa [bL] using h
  | x + 1 => by rw [jz]; exact uQ (qE F p h x) _
theorem yv {α : Type} [DecidableEq α] (l : List α) (x : α) : pos (fW l x) x = pos l x := by
  by_cases h : x ∈ l
  · rw [fZ h]
  · rw [eY h, qx h, tT h]
theorem Ac (F : SYS) (p : PP) (l : List PP) {x y : Nat} (h : y < x) : pos (bL F p l x) (F p y).1 = pos (bL F p l y) (F p y).1 := by
  obtain ⟨k, e⟩ := pC F p l (y + 1) (x - (y + 1))
  rw [show x = y + 1 + (x - (y + 1)) by omega, e, ii _ (yQ F p l (Nat.lt_succ_self y)), jz, yv]
structure BOK (F : SYS) (n : Nat) (p0 : PP) (i : Nat) (s : BST) : Prop where
  nd : s.1.Nodup
  le : s.1.length ≤ 128
  nl : s.2.1.length = i
  ol : s.2.2.length = i
  il : i ≤ s.1.length
  hd : s.1.getD 0 d0 = p0
  h0 : 0 < s.1.length
  nx : ∀ j, j < i → s.2.1.getD j [] = (List.range n).map fun x => (pos s.1 (F (s.1.getD j d0) x).1 : Int)
  ot : ∀ j, j < i → s.2.2.getD j [] = (List.range n).map fun x => (F (s.1.getD j d0) x).2
  cl : ∀ j x, j < i → x < n → (F (s.1.getD j d0) x).1 ∈ s.1
  bd : ∀ j x, j < i → x < n → (F (s.1.getD j d0) x).2 ≤ 1048576
theorem dC {α : Type} {l : List α} {y d : α} {i : Nat} (h : i < l.length) : (l ++ [y]).getD i d = l.getD i d := by simp [List.getD, List.getElem?_append_left h]
theorem gx {α : Type} {l : List α} {y d : α} {i : Nat} (h : i = l.length) : (l ++ [y]).getD i d = y := by subst h; simp [List.getD]
theorem y6 {F : SYS} {p : PP} {l : List PP} {n : Nat} (h : (List.range n).any (bX F p l) = false) {y : Nat} (hy : y < n) : (bL F p l (y + 1)).length ≤ 128 ∧ (F p y).2 ≤ 1048576 := by
  rw [List.any_eq_false] at h
  have := h y (by simpa using hy)
  simp only [bX, Bool.not_eq_true, Bool.or_eq_false_iff, decide_eq_false_iff_not] at this
  omega
theorem B3 {F : SYS} {p : PP} {l : List PP} {n : Nat} (hl : l.length ≤ 128) (h : (List.range n).any (bX F p l) = false) : (bL F p l n).length ≤ 128 := by
  cases n with
  | zero => simpa [bL] using hl
  | succ n => exact (y6 h (Nat.lt_succ_self n)).1
theorem BOK.step {F : SYS} {n : Nat} {p0 : PP} {i : Nat} {s : BST} (h : BOK F n p0 i s) (hi : i < s.1.length) (hb : (List.range n).any (bX F (s.1.getD i d0) s.1) = false) : BOK F n p0 (i + 1) (bA F n i s) where
  nd := qE F _ h.nd n
  le := B3 h.le hb
  nl := by simp [bA, h.nl]
  ol := by simp [bA, h.ol]
  il := Nat.le_trans hi (xZ F _ s.1 n)
  hd := by simp only [bA]; rw [p7 F _ n h.h0]; exact h.hd
  h0 := Nat.lt_of_lt_of_le h.h0 (xZ F _ s.1 n)
  nx := fun j hj => by
    simp only [bA]
    rw [p7 F _ n (show j < s.1.length by omega)]
    by_cases e : j = i
    · rw [gx (by rw [h.nl, e]), e]
      exact List.map_congr_left fun x hx => by rw [Ac F _ s.1 (List.mem_range.1 hx)]
    · have hji : j < i := by omega
      rw [dC (by rw [h.nl]; exact hji), h.nx j hji]
      refine List.map_congr_left fun x hx => ?_
      obtain ⟨k, ek⟩ := lX F (s.1.getD i d0) s.1 n
      rw [ek, ii _ (h.cl j x hji (List.mem_range.1 hx))]
  ot := fun j hj => by
    simp only [bA]
    rw [p7 F _ n (show j < s.1.length by omega)]
    by_cases e : j = i
    · rw [gx (by rw [h.ol, e]), e]; rfl
    · rw [dC (by rw [h.ol]; omega), h.ot j (by omega)]
  cl := fun j x hj hx => by
    simp only [bA]
    rw [p7 F _ n (show j < s.1.length by omega)]
    by_cases e : j = i
    · rw [e]; exact yQ F _ s.1 hx
    · obtain ⟨k, ek⟩ := lX F (s.1.getD i d0) s.1 n
      rw [ek, List.mem_append]
      exact .inl (h.cl j x (by omega) hx)
  bd := fun j x hj hx => by
    simp only [bA]
    rw [p7 F _ n (show j < s.1.length by omega)]
    by_cases e : j = i
    · rw [e]; exact (y6 hb hx).2
    · exact h.bd j x (by omega) hx
section
variable {F : SYS} {n : Nat} {p0 : PP} {s : BST} (h : bR F n p0 = some s)
include h
end
/-plain-/
abbrev STP := PP → Nat → PP
abbrev W3 := PP × List Int
def w30 : W3 := (d0, [])
def dIn (l : List W3) (q : PP) : Bool := l.any fun f => decide (f.1 = q)
def dSt (A : STP) (e : W3) (l : List W3) (x : Nat) : List W3 := if dIn l (A e.1 x) = true then l else l ++ [(A e.1 x, e.2 ++ [(x : Int)])]
def jr (A : STP) (e : W3) (l : List W3) (x : Nat) : List W3 := (List.range x).foldl (dSt A e) l
theorem uJ {l : List W3} {q : PP} : dIn l q = true ↔ q ∈ l.map Prod.fst := by
  unfold dIn
  rw [List.any_eq_true, List.mem_map]
  constructor
  · rintro ⟨e, he, h⟩; exact ⟨e, he, by simpa using h⟩
  · rintro ⟨e, he, h⟩; exact ⟨e, he, by simpa using h⟩
theorem sO {A : STP} {e : W3} {l : List W3} {x : Nat} (h : A e.1 x ∈ l.map Prod.fst) : dSt A e l x = l := if_pos (uJ.2 h)
theorem pM {A : STP} {e : W3} {l : List W3} {x : Nat} (h : A e.1 x ∉ l.map Prod.fst) : dSt A e l x = l ++ [(A e.1 x, e.2 ++ [(x : Int)])] := if_neg fun k => h (uJ.1 k)
theorem jm (A : STP) (e : W3) (l : List W3) (x : Nat) : jr A e l (x + 1) = dSt A e (jr A e l x) x := by
  unfold jr; rw [List.range_succ, List.foldl_append]; rfl
theorem ya (A : STP) (e : W3) (l : List W3) (x : Nat) : ∃ k, dSt A e l x = l ++ k := by
  unfold dSt; split
  · exact ⟨[], by simp⟩
  · exact ⟨_, rfl⟩
theorem oC (A : STP) (e : W3) (l : List W3) (x : Nat) : ∀ d, ∃ k, jr A e l (x + d) = jr A e l x ++ k
  | 0 => ⟨[], by simp⟩
  | d + 1 => by
    obtain ⟨k, h⟩ := oC A e l x d
    obtain ⟨k', h'⟩ := ya A e (jr A e l (x + d)) (x + d)
    exact ⟨k ++ k', by rw [← Nat.add_assoc, jm, h', h, List.append_assoc]⟩
theorem xw (A : STP) (e : W3) (l : List W3) (x : Nat) : ∃ k, jr A e l x = l ++ k := by
  obtain ⟨k, h⟩ := oC A e l 0 x
  rw [Nat.zero_add] at h
  exact ⟨k, h⟩
def inR (n1 n2 : Nat) (q : PP) : Prop := (0 ≤ q.1 ∧ q.1 < n1) ∧ 0 ≤ q.2 ∧ q.2 < n2
structure DW (n1 n2 : Nat) (l : List W3) : Prop where
  nd : (l.map Prod.fst).Nodup
  rg : ∀ e, e ∈ l → inR n1 n2 e.1
  wl : ∀ e, e ∈ l → e.2.length < l.length
theorem rY {l : List W3} {i : Nat} (h : i < l.length) : l.getD i w30 ∈ l := by simp [List.getD, h]
theorem DW.le {n1 n2 : Nat} {l : List W3} (h : DW n1 n2 l) : l.length ≤ n1 * n2 := by
  have hnd : ((l.map Prod.fst).map fun q : PP => q.1 * (n2 : Int) + q.2).Nodup := by
    rw [List.nodup_iff_pairwise_ne, List.pairwise_map]
    refine List.Pairwise.imp_of_mem (fun {a b} ha hb hab => ?_) (List.nodup_iff_pairwise_ne.1 h.nd)
    intro e
    obtain ⟨ea, hea, rfl⟩ := List.mem_map.1 ha
    obtain ⟨eb, heb, rfl⟩ := List.mem_map.1 hb
    have := qw (h.rg ea hea).2 (h.rg eb heb).2 e
    exact hab (Prod.ext this.1 this.2)
  have := eQ (n1 * n2) _ hnd (fun x hx => by
    obtain ⟨q, hq, rfl⟩ := List.mem_map.1 hx
    obtain ⟨e, he, rfl⟩ := List.mem_map.1 hq
    have hr := h.rg e he
    have := tB hr.1 hr.2
    rw [Int.natCast_mul]; exact this)
  simpa using this
theorem DW.step {n1 n2 n : Nat} {A : STP} (hA : ∀ q, inR n1 n2 q → ∀ x, x < n → inR n1 n2 (A q x)) {l : List W3} (h : DW n1 n2 l) {e : W3} (he : e ∈ l) {x : Nat} (hx : x < n) : DW n1 n2 (dSt A e l x) := by
  by_cases hin : A e.1 x ∈ l.map Prod.fst
  · rw [sO hin]; exact h
  · rw [pM hin]
    refine ⟨?_, fun f hf => ?_, fun f hf => ?_⟩
    · rw [List.map_append, aH, bh, List.nodup_append]
      refine ⟨h.nd, by simp, fun a ha b hb => ?_⟩
      simp at hb; subst hb
      intro hab; subst hab; exact hin ha
    · rcases List.mem_append.1 hf with hf | hf
      · exact h.rg f hf
      · simp at hf; subst hf; exact hA _ (h.rg e he) x hx
    · rw [aq, List.length_singleton]
      rcases List.mem_append.1 hf with hf | hf
      · have := h.wl f hf; omega
      · simp at hf; subst hf
        have := h.wl e he
        simp only [aq, List.length_singleton]; omega
theorem DW.row {n1 n2 n : Nat} {A : STP} (hA : ∀ q, inR n1 n2 q → ∀ x, x < n → inR n1 n2 (A q x)) {l : List W3} (h : DW n1 n2 l) {i : Nat} (hi : i < l.length) : ∀ x, x ≤ n → DW n1 n2 (jr A (l.getD i w30) l x)
  | 0, _ => by simpa [jr] using h
  | x + 1, hx => by
    rw [jm]
    refine (h.row hA hi x (by omega)).step hA ?_ (by omega)
    obtain ⟨k, e⟩ := xw A (l.getD i w30) l x
    rw [e]; exact List.mem_append.2 (.inl (rY hi))
/-plain-/
/-plain-/
/-plain-/
/-plain-/
def hF (h : PP → PP) (l : List W3) : List PP := l.map fun e => h e.1
structure HOM (A B : STP) (n : Nat) (I : PP → Prop) (h : PP → PP) : Prop where
  cl : ∀ p, I p → ∀ x, x < n → I (A p x)
  eq : ∀ p, I p → ∀ x, x < n → B (h p) x = h (A p x)
/-plain-/
theorem AR {xs ys : List Int} (h : xs.length = ys.length) (h2 : ∀ i, i < xs.length → xs.getD i 0 = ys.getD i 0) : xs = ys := by
  refine List.ext_getElem h fun i h1 h3 => ?_
  have := h2 i h1
  simpa [List.getD, h1, h3] using this
/-plain-/
def dd (f : Int → Int) (l : List Int) : List Int := (l.map f).foldl bU []
theorem we (f : Int → Int) (l : List Int) (x : Int) : dd f (l ++ [x]) = bU (dd f l) (f x) := by
  unfold dd; rw [List.map_append, List.foldl_append]; rfl
theorem wJ {f : Int → Int} {l : List Int} {y : Int} : y ∈ dd f l ↔ ∃ x, x ∈ l ∧ f x = y := by
  unfold dd; rw [gn, List.mem_map]; simp
theorem uk (f : Int → Int) : ∀ (r l : List Int), (r.map f).foldl bU (dd f l) = dd f (r.foldl bU l)
  | [], _ => rfl
  | x :: r, l => by
    rw [aH, List.foldl_cons, List.foldl_cons, ← uk f r (bU l x)]
    congr 1
    by_cases h : x ∈ l
    · rw [gd h, gd (wJ.2 ⟨x, h, rfl⟩)]
    · rw [eD h, we]
theorem tC : ∀ (r l : List Int), (∀ x, x ∈ r → x ∈ l) → r.foldl bU l = l
  | [], _, _ => rfl
  | x :: r, l, h => by
    rw [List.foldl_cons, gd (h x (by simp))]
    exact tC r l fun y hy => h y (by simp [hy])
theorem lP (c : List Int) {a : Nat} : ∀ {b : Nat}, a ≤ b → cN c a ≤ cN c b
  | 0, h => by
    have : a = 0 := by omega
    subst this; exact Int.le_refl _
  | b + 1, h => by
    by_cases e : a = b + 1
    · subst e; exact Int.le_refl _
    · have := lP c (a := a) (b := b) (by omega)
      simp only [cN]; omega
theorem sq {t : Mly} (ht : MOK t) : ∀ k, k ≤ t.nx.length → dd t.f (rgI k) = rgI (cN t.eqc k).toNat
  | 0, _ => rfl
  | k + 1, h => by
    have hl := (f0 ht).len
    have h1 := gA ht k (by omega)
    simp only [iq, Bool.or_eq_false_iff, decide_eq_false_iff_not] at h1
    have hn := rX t.eqc k
    have hf : t.f (k : Int) = t.eqc.getD k 0 := by unfold Mly.f; rw [ah]
    rw [rk, we, sq ht k (by omega), hf]
    by_cases e : t.eqc.getD k 0 = cN t.eqc k
    · rw [eD (fun hm => by have := gV.1 hm; omega), show (cN t.eqc (k + 1)).toNat = (cN t.eqc k).toNat + 1 by simp only [cN]; omega, rk, e, Int.toNat_of_nonneg hn]
    · rw [gd (gV.2 ⟨by omega, by omega⟩), show (cN t.eqc (k + 1)).toNat = (cN t.eqc k).toNat by simp only [cN]; omega]
theorem q9 {t : Mly} (ht : MOK t) {s : Int} (h0 : 0 ≤ s) (h1 : s < t.nx.length) : t.qm.row (t.f s) = (t.row s).map t.f := by
  have hf := mN ht h0 h1
  have hq := oQ t
  have hi1 := ht.i1
  have r1 : ((t.qm.row (t.f s)).length : Int) = t.inp := (zo ht).rl (t.f s).toNat (by omega)
  have r2 : ((t.row s).length : Int) = t.inp := ht.rl s.toNat (by omega)
  refine AR (by rw [aD]; omega) fun a ha => ?_
  rw [eG t.f 0 0 (by omega)]
  have := (wK ht h0 h1 (a := (a : Int)) ⟨by omega, by omega⟩).2
  exact this
theorem yA {t : Mly} (ht : MOK t) (hr : t.reach = rgI t.nx.length) : ∀ (g i : Nat) (L : List Int), t.nx.length < g + i → t.rf g i L = t.reach → L = rgI L.length → L.length ≤ t.nx.length → i ≤ L.length →
    (∀ j : Nat, j < i → ∀ x, x ∈ t.row j → x ∈ L) → ∀ F, t.reps.length < F + (cN t.eqc i).toNat → t.qm.rf F (cN t.eqc i).toNat (dd t.f L) = dd t.f t.reach
  | 0, i, L, hg, _, _, hL, hi, _, F, _ => by omega
  | g + 1, i, L, hg, hrf, hp, hL, hi, hcl, F, hF => by
    have hlen := (f0 ht).len
    have hK := (gC ht).len
    have hnn := rX t.eqc i
    have hdd : dd t.f L = rgI (cN t.eqc L.length).toNat := by
      have := sq ht L.length hL
      rwa [← hp] at this
    by_cases hil : i < L.length
    · have hLi : L.getD i 0 = (i : Int) := by rw [hp]; exact og hil
      rw [gB t g i L hil, hLi] at hrf
      have hmi : (i : Int) ∈ L := by rw [← hLi]; exact bl hil
      have h1 := gA ht i (by omega)
      simp only [iq, Bool.or_eq_false_iff, decide_eq_false_iff_not] at h1
      have hm1 := lP t.eqc (a := i + 1) (b := L.length) (by omega)
      have hm2 := lP t.eqc (a := i) (b := t.nx.length) (by omega)
      have hpre : ∃ k, (t.row i).foldl bU L ++ k = rgI t.nx.length := by
        obtain ⟨k, e⟩ := kg t g (i + 1) ((t.row i).foldl bU L)
        exact ⟨k, by rw [← e, hrf, hr]⟩
      obtain ⟨k, hk⟩ := hpre
      have hp2 := pm hk
      have hL2 : ((t.row i).foldl bU L).length ≤ t.nx.length := by
        have := congrArg List.length hk
        rw [aq, dc] at this; omega
      have hge := lw (t.row i) L
      have hcl2 : ∀ j : Nat, j < i + 1 → ∀ x, x ∈ t.row j → x ∈ (t.row i).foldl bU L := fun j hj x hx => by
        by_cases e : j = i
        · subst e; exact gn.2 (.inr hx)
        · exact gn.2 (.inl (hcl j (by omega) x hx))
      have hfi : t.f (i : Int) = t.eqc.getD i 0 := by unfold Mly.f; rw [ah]
      have hfold := uk t.f (t.row i) L
      by_cases e : t.eqc.getD i 0 = cN t.eqc i
      · have ec : (cN t.eqc (i + 1)).toNat = (cN t.eqc i).toNat + 1 := by simp only [cN]; omega
        have hKb : (cN t.eqc i).toNat < t.reps.length := by
          have := lP t.eqc (a := i + 1) (b := t.nx.length) (by omega)
          unfold Mly.reps; omega
        obtain ⟨F2, rfl⟩ : ∃ F2, F = F2 + 1 := ⟨F - 1, by omega⟩
        have hlt : (cN t.eqc i).toNat < (dd t.f L).length := by rw [hdd, dc]; omega
        rw [gB t.qm F2 _ _ hlt]
        have hat : (dd t.f L).getD (cN t.eqc i).toNat 0 = t.f (i : Int) := by
          rw [hdd, og (by rw [hdd, dc] at hlt; exact hlt), hfi]; omega
        rw [hat, q9 ht (by omega) (by omega), hfold, ← ec]
        exact yA ht hr g (i + 1) _ (by omega) hrf hp2 hL2 (by omega) hcl2 F2 (by omega)
      · have ec : (cN t.eqc (i + 1)).toNat = (cN t.eqc i).toNat := by simp only [cN]; omega
        obtain ⟨q, q1, q2⟩ := tz (gA ht) i (by omega) (t.eqc.getD i 0) (by omega) (by omega)
        have hfq : t.f (q : Int) = t.f (i : Int) := by rw [hfi, ← q2]; unfold Mly.f; rw [ah]
        have hrow : (t.row i).map t.f = (t.row q).map t.f := by
          rw [← q9 ht (by omega) (by omega), ← q9 ht (by omega) (by omega), hfq]
        have hin : ((t.row i).map t.f).foldl bU (dd t.f L) = dd t.f L := tC _ _ fun y hy => by
          rw [hrow, List.mem_map] at hy
          obtain ⟨x, hx, rfl⟩ := hy
          exact wJ.2 ⟨x, hcl q q1 x hx, rfl⟩
        rw [hfold] at hin
        rw [← hin, ← ec]
        exact yA ht hr g (i + 1) _ (by omega) hrf hp2 hL2 (by omega) hcl2 F (by omega)
    · have hie : i = L.length := by omega
      rw [fz t _ _ _ (by omega)] at hrf
      rw [fz t.qm _ _ _ (by rw [hdd, dc, hie]; exact Nat.le_refl _), ← hrf]
theorem AI {t : Mly} (ht : MOK t) (hs : t.st = 0) (hr : t.reach = rgI t.nx.length) : CAN t.qm := by
  have hlen := (f0 ht).len
  have hn1 := ht.n1
  have hK := (gC ht).len
  refine ⟨zo ht, rfl, ?_, Bp ht⟩
  have h0 := gA ht 0 (by omega)
  simp only [iq, Bool.or_eq_false_iff, decide_eq_false_iff_not] at h0
  have hz0 : cN t.eqc 0 = 0 := rfl
  have hf0 : t.f 0 = 0 := by unfold Mly.f; show t.eqc.getD 0 0 = 0; omega
  have hd0 : dd t.f [0] = [0] := by show bU [] (t.f 0) = _; rw [hf0]; rfl
  have hrf : t.rf (t.nx.length + 1) 0 [0] = t.reach := by rw [dG (dk ht), hs]
  have := yA ht hr (t.nx.length + 1) 0 [0] (by omega) hrf rfl (by simpa using hn1) (by simp) (fun j hj => by omega) (t.reps.length + 1) (by simp only [cN]; omega)
  rw [hd0] at this
  rw [dG (dk (zo ht)), oQ]
  show t.qm.rf (t.reps.length + 1) 0 [0] = _
  rw [show (cN t.eqc 0).toNat = 0 from rfl] at this
  rw [this, hr, sq ht _ (Nat.le_refl _)]
  congr 1
  unfold Mly.reps; omega
def Mly.minm (m : Mly) : Mly := m.T.qm
theorem tt {m : Mly} (hm : MOK m) : CAN m.minm := AI (rd hm) rfl (by rw [yJ hm, sL]; rfl)
theorem oc {m : Mly} (hm : MOK m) (w : List Int) (hw : ∀ i : Nat, i < w.length → 0 ≤ w.getD i 0 ∧ w.getD i 0 < m.inp) : (m.minm.go 0 w).2 = (m.go m.st w).2 := by
  have ht := rd hm
  have hn := ht.n1
  have hlen := (f0 ht).len
  have h0 := gA ht 0 (by omega)
  simp only [iq, Bool.or_eq_false_iff, decide_eq_false_iff_not] at h0
  have hz0 : cN m.T.eqc 0 = 0 := rfl
  have hf0 : m.T.f 0 = 0 := by unfold Mly.f; show m.T.eqc.getD 0 0 = 0; omega
  have h1 := wj ht w 0 (by omega) (by omega) hw
  rw [hf0] at h1
  obtain ⟨k, hk⟩ := iG hm
  have h2 := (tM hm (s := m.st) (by rw [hk]; simp) w hw).2.2
  rw [yy hm] at h2
  exact h1.trans h2
theorem A7 {a b : Mly} (ha : MOK a) (hb : MOK b) (hi : a.inp = b.inp) : EQ2 a b a.st b.st ↔ EQ2 a.minm b.minm 0 0 := by
  constructor
  · intro h w hw
    rw [oc ha w hw, oc hb w (by rw [← hi]; exact hw)]; exact h w hw
  · intro h w hw
    rw [← oc ha w hw, ← oc hb w (by rw [← hi]; exact hw)]; exact h w hw
theorem xA {a b : Mly} (ha : MOK a) (hb : MOK b) (hi : a.inp = b.inp) : EQ2 a b a.st b.st ↔ a.minm = b.minm := by
  rw [A7 ha hb hi]
  constructor
  · intro h
    obtain ⟨e1, e2⟩ := A8 (tt ha) (tt hb) hi h
    show (⟨a.inp, 0, a.minm.nx, a.minm.ot⟩ : Mly) = ⟨b.inp, 0, b.minm.nx, b.minm.ot⟩
    rw [hi, e1, e2]
  · intro h w _
    rw [h]
/-plain-/
def Mly.qN (t : Mly) (k : Nat) : List (List Int) := (dD t.eqc k).map fun s => (t.nx.getD s []).map t.f
def Mly.qO (t : Mly) (k : Nat) : List (List Int) := (dD t.eqc k).map fun s => t.ot.getD s []
theorem Au (t : Mly) (k : Nat) : (t.qN k).length = (dD t.eqc k).length := by simp [Mly.qN]
theorem A3 (t : Mly) (k : Nat) : (t.qO k).length = (dD t.eqc k).length := by simp [Mly.qO]
theorem o8 {t : Mly} {k : Nat} (h : t.eqc.getD k 0 = cN t.eqc k) : t.qN (k + 1) = t.qN k ++ [(t.nx.getD k []).map t.f] ∧ t.qO (k + 1) = t.qO k ++ [t.ot.getD k []] := by
  unfold Mly.qN Mly.qO; rw [mm h, List.map_append, List.map_append]; exact ⟨rfl, rfl⟩
theorem oa {t : Mly} {k : Nat} (h : ¬ t.eqc.getD k 0 = cN t.eqc k) : t.qN (k + 1) = t.qN k ∧ t.qO (k + 1) = t.qO k := by
  unfold Mly.qN Mly.qO; rw [mU h]; exact ⟨rfl, rfl⟩
def Mly.mres (m : Mly) : Mly := if aR m = 0 then m.minm else ⟨0, 0, [], []⟩
theorem mA {m : Mly} (h : ¬ aR m = 0) : m.mres = ⟨0, 0, [], []⟩ := if_neg h
theorem ua {m : Mly} (h : aR m = 0) : m.mres = m.trim.qm := by unfold Mly.mres; rw [if_pos h, wt h]; rfl
theorem yN (c : List Int) (k : Nat) : (dD c k).length ≤ k := by
  unfold dD; exact Nat.le_trans (List.length_filter_le _ _) (by simp)
/-plain-/
def mnB (m : Mly) : Bool := decide (aR m = 0) && (decide (m.reach.length = m.nx.length) && decide (m.mres.nx.length = m.nx.length))
def dR (m : Mly) : Int := if ¬ aR m = 0 then aR m else if mnB m = true then 0 else 1
theorem AK {m : Mly} (h : ¬ aR m = 0 ∨ ¬ m.reach.length = m.nx.length) : mnB m = false := by
  unfold mnB
  rcases h with h | h
  · rw [decide_eq_false h]; rfl
  · rw [decide_eq_false h]; simp
theorem AX {m : Mly} (h : aR m = 0) (h2 : m.reach.length = m.nx.length) : mnB m = decide (m.mres.nx.length = m.nx.length) := by
  unfold mnB; rw [decide_eq_true h, decide_eq_true h2]; rfl
/-plain-/
def smB (m : Mly) (cl : List Int) (s t a : Nat) : Prop := cl.getD s 0 = cl.getD t 0 ∧ ∀ b : Nat, b < a → (m.ot.getD s []).getD b 0 = (m.ot.getD t []).getD b 0 ∧ cl.getD ((m.nx.getD s []).getD b 0).toNat 0 = cl.getD ((m.nx.getD t []).getD b 0).toNat 0
theorem xG {m : Mly} {cl : List Int} {s t a : Nat} (h : smB m cl s t a) : smB m cl s t (a + 1) ↔ ((m.ot.getD s []).getD a 0 = (m.ot.getD t []).getD a 0 ∧ cl.getD ((m.nx.getD s []).getD a 0).toNat 0 = cl.getD ((m.nx.getD t []).getD a 0).toNat 0) := by
  constructor
  · intro h2; exact h2.2 a (by omega)
  · intro h2
    refine ⟨h.1, fun b hb => ?_⟩
    by_cases e : b = a
    · rw [e]; exact h2
    · exact h.2 b (by omega)
theorem yW {m : Mly} (hm : MOK m) {i s t : Nat} (hs : s < m.nx.length) (ht : t < m.nx.length) : smB m (m.cls i) s t m.inp.toNat ↔ m.sig (m.cls i) s = m.sig (m.cls i) t := by
  constructor
  · intro h; exact (kh hm).2 fun a ha => h.2 a (by omega)
  · intro h
    have h1 := (kh hm).1 h
    refine ⟨?_, fun b hb => h1 b (by omega)⟩
    exact iS hm i s t hs ht ((gp hs ht).2 h)
theorem xk {m : Mly} {cl : List Int} {s t a b : Nat} (hab : a ≤ b) (h : ¬ smB m cl s t a) : ¬ smB m cl s t b := fun h2 => h ⟨h2.1, fun c hc => h2.2 c (by omega)⟩
def fnF (m : Mly) (cl : List Int) (s k : Nat) (fd : Int) : Prop := (fd = -1 ∧ ∀ t, k ≤ t → t < s → m.sig cl s ≠ m.sig cl t) ∨ (fd = (m.nextL cl).getD s 0 ∧ ∃ t, k ≤ t ∧ t < s ∧ m.sig cl s = m.sig cl t)
theorem Ai {m : Mly} {cl : List Int} {s k : Nat} (hs : s < m.nx.length) (hk : k < s) (h : m.sig cl s = m.sig cl k) : fnF m cl s k ((m.nextL cl).getD k 0) :=
  .inr ⟨((gp hs (by omega)).2 h).symm, k, Nat.le_refl _, hk, h⟩
theorem AW {m : Mly} {cl : List Int} {s k : Nat} {fd : Int} (h : fnF m cl s (k + 1) fd) (h2 : ¬ m.sig cl s = m.sig cl k) : fnF m cl s k fd := by
  rcases h with ⟨h3, h4⟩ | ⟨h3, t, h4, h5, h6⟩
  · refine .inl ⟨h3, fun t ht1 ht2 => ?_⟩
    by_cases e : t = k
    · rw [e]; exact h2
    · exact h4 t (by omega) ht2
  · exact .inr ⟨h3, t, by omega, h5, h6⟩
theorem A9 {m : Mly} {cl : List Int} {s : Nat} {fd : Int} (hs : s < m.nx.length) (h : fnF m cl s 0 fd) (h2 : fd < 0) : (m.nextL cl).getD s 0 = ((cU (m.sig cl) s).length : Int) ∧ (cU (m.sig cl) (s + 1)).length = (cU (m.sig cl) s).length + 1 := by
  rcases h with ⟨h3, h4⟩ | ⟨h3, _⟩
  · have hn : m.sig cl s ∉ cU (m.sig cl) s := fun hx => by
      obtain ⟨t, ht, e⟩ := fN.1 hx
      exact h4 t (Nat.zero_le _) ht e.symm
    refine ⟨by rw [iT hs, ku hs hn], by rw [dp, eY hn, aq]; rfl⟩
  · have := (jc (m := m) (cl := cl) hs).1; omega
theorem Aj {m : Mly} {cl : List Int} {s : Nat} {fd : Int} (h : fnF m cl s 0 fd) (h2 : ¬ fd < 0) : (m.nextL cl).getD s 0 = fd ∧ (cU (m.sig cl) (s + 1)).length = (cU (m.sig cl) s).length := by
  rcases h with ⟨h3, _⟩ | ⟨h3, t, _, h5, h6⟩
  · omega
  · refine ⟨h3.symm, by rw [dp, fZ (fN.2 ⟨t, h5, h6.symm⟩)]⟩
theorem qi {l : List Int} {k j : Nat} (h : j < k) : (l.take k).getD j 0 = l.getD j 0 := by
  simp [List.getD, List.getElem?_take_of_lt h]
/-plain-/
abbrev Bi := List (List Int)
theorem l6 {l r : List Int} {i : Nat} (h : i < l.length) : (l ++ r).getD i 0 = l.getD i 0 := by simp [List.getD, List.getElem?_append_left h]
def cAt (m : Mly) (t : Int) : Int := (m.cls m.nx.length).getD t.toNat 0
def nmC (m : Mly) : Nat → List Int → Int → Int
  | _, [], _ => -1
  | i, o :: O, c => if cAt m o = c then (i : Int) else nmC m (i + 1) O c
def nmO (m : Mly) (O : List Int) (c : Int) : Int := nmC m 0 O c
def g0 (m : Mly) (O : List Int) : List Int := (List.range m.nx.length).map fun (c : Nat) => nmO m O c
theorem lx {m : Mly} {c : Int} : ∀ (O : List Int) (i : Nat), (nmC m i O c = -1 ∧ ∀ o ∈ O, cAt m o ≠ c) ∨ ((i : Int) ≤ nmC m i O c ∧ nmC m i O c < i + O.length ∧ ∃ o ∈ O, cAt m o = c)
  | [], i => .inl ⟨rfl, fun o h => by cases h⟩
  | o :: O, i => by
    by_cases e : cAt m o = c
    · have : nmC m i (o :: O) c = i := if_pos e
      rw [this]
      exact .inr ⟨by omega, by simp only [au]; omega, o, aQ .., e⟩
    · have : nmC m i (o :: O) c = nmC m (i + 1) O c := if_neg e
      rw [this]
      rcases lx (c := c) O (i + 1) with ⟨h1, h2⟩ | ⟨h1, h2, o2, h3, h4⟩
      · exact .inl ⟨h1, fun o' ho => Or.elim (List.mem_cons.1 ho) (fun h9 => h9 ▸ e) (fun h9 => h2 o' h9)⟩
      · exact .inr ⟨by omega, by simp only [au]; omega, o2, aJ _ h3, h4⟩
theorem ui {m : Mly} {c t : Int} : ∀ (O : List Int) (i : Nat), nmC m i (O ++ [t]) c = if nmC m i O c = -1 then (if cAt m t = c then ((i + O.length : Nat) : Int) else -1) else nmC m i O c
  | [], i => by show (if _ then _ else _) = _; simp [nmC]
  | o :: O, i => by
    by_cases e : cAt m o = c
    · have h1 : nmC m i (o :: O) c = i := if_pos e
      have h2 : nmC m i (o :: O ++ [t]) c = i := if_pos e
      rw [h1, h2, if_neg (by omega)]
    · have h1 : nmC m i (o :: O) c = nmC m (i + 1) O c := if_neg e
      have h2 : nmC m i (o :: O ++ [t]) c = nmC m (i + 1) (O ++ [t]) c := if_neg e
      rw [h1, h2, ui O (i + 1), au, show i + 1 + O.length = i + (O.length + 1) by omega]
theorem bt (m : Mly) (O : List Int) : (g0 m O).length = m.nx.length := by simp [g0]
theorem xO {m : Mly} {O : List Int} {c : Nat} (h : c < m.nx.length) : (g0 m O).getD c 0 = nmO m O c := by unfold g0; simp [List.getD, h]
theorem rE {m : Mly} {O : List Int} {t : Int} {c : Nat} (h : c < m.nx.length) (hc : cAt m t = c) (hn : nmO m O c < 0) : (g0 m O).set c (O.length : Int) = g0 m (O ++ [t]) := by
  have hn1 : nmO m O c = -1 := by
    rcases lx (m := m) (c := (c : Int)) O 0 with ⟨h1, _⟩ | ⟨h1, _⟩
    · exact h1
    · unfold nmO at hn; omega
  apply List.ext_getElem
  · simp [g0]
  · intro i h1 h2
    have hi : i < m.nx.length := by simpa [g0] using h2
    rw [List.getElem_set]
    unfold g0 nmO
    simp only [List.getElem_map, List.getElem_range, ui]
    by_cases e : c = i
    · subst e
      have hn2 : nmC m 0 O (c : Int) = -1 := hn1
      rw [if_pos rfl, if_pos hn2, if_pos hc]; simp
    · rw [if_neg e]
      by_cases e2 : nmC m 0 O (i : Int) = -1
      · rw [if_pos e2, if_neg (by rw [hc]; omega)]; exact e2
      · rw [if_neg e2]
theorem xQ (m : Mly) : g0 m [] = List.replicate m.nx.length (-1) := by
  unfold g0 nmO nmC; simp [List.map_const']
def mmA (m : Mly) (O : List Int) (t : Int) : List Int := if nmO m O (cAt m t) < 0 then O ++ [t] else O
def qr (m : Mly) (x : Int) (p : List Int × List Int) (a : Nat) : List Int × List Int := (mmA m p.1 (m.nxt x a), p.2 ++ [nmO m (mmA m p.1 (m.nxt x a)) (cAt m (m.nxt x a))])
def cO (m : Mly) (x : Int) (O : List Int) (k : Nat) : List Int × List Int := (List.range k).foldl (qr m x) (O, [])
theorem fJ {m : Mly} {x : Int} {O : List Int} {k : Nat} : cO m x O (k + 1) = qr m x (cO m x O k) k := by unfold cO; rw [List.range_succ, List.foldl_append]; rfl
def nJ (m : Mly) : Nat → Nat → List Int × List (List Int) → List Int × List (List Int)
  | 0, _, p => p
  | f + 1, i, p => if i < p.1.length then nJ m f (i + 1) ((cO m (p.1.getD i 0) p.1 m.inp.toNat).1, p.2 ++ [(cO m (p.1.getD i 0) p.1 m.inp.toNat).2]) else p
def mmF (m : Mly) : List Int × List (List Int) := nJ m (m.nx.length + 1) 0 ([m.st], [])
theorem pZ {m : Mly} {f i : Nat} {p : List Int × List (List Int)} (h : i < p.1.length) : nJ m (f + 1) i p = nJ m f (i + 1) ((cO m (p.1.getD i 0) p.1 m.inp.toNat).1, p.2 ++ [(cO m (p.1.getD i 0) p.1 m.inp.toNat).2]) := if_pos h
theorem qZ {m : Mly} {f i : Nat} {p : List Int × List (List Int)} (h : ¬ i < p.1.length) : nJ m f i p = p := by
  cases f with
  | zero => rfl
  | succ f => exact if_neg h
structure MO (m : Mly) (O : List Int) : Prop where
  rng : ∀ o ∈ O, 0 ≤ o ∧ o < m.nx.length
  cd : O.Pairwise fun x y => cAt m x ≠ cAt m y
theorem MO.nd {m : Mly} {O : List Int} (h : MO m O) : O.Nodup := h.cd.imp fun h e => h (by rw [e])
theorem MO.len {m : Mly} {O : List Int} (h : MO m O) : O.length ≤ m.nx.length := eQ _ _ h.nd h.rng
theorem zK {m : Mly} {O : List Int} {t : Int} (h : MO m O) (ht : 0 ≤ t ∧ t < m.nx.length) : MO m (mmA m O t) := by
  unfold mmA
  split
  · rename_i hn
    refine ⟨fun o ho => ?_, ?_⟩
    · rcases List.mem_append.1 ho with h1 | h1
      · exact h.rng o h1
      · rw [List.mem_singleton] at h1; rw [h1]; exact ht
    · rw [List.pairwise_append]
      refine ⟨h.cd, List.pairwise_singleton _ _, fun x hx y hy => ?_⟩
      rw [List.mem_singleton] at hy; subst hy
      rcases lx (m := m) (c := cAt m y) O 0 with ⟨_, h2⟩ | ⟨h2, _⟩
      · exact h2 x hx
      · unfold nmO at hn; omega
  · exact h
theorem km {m : Mly} (hm : MOK m) {x : Int} (hx : 0 ≤ x ∧ x < m.nx.length) {O : List Int} (h : MO m O) : ∀ k : Nat, (k : Int) ≤ m.inp → MO m (cO m x O k).1 ∧ (cO m x O k).2.length = k ∧ ∃ r, (cO m x O k).1 = O ++ r
  | 0, _ => ⟨h, rfl, [], (List.append_nil _).symm⟩
  | k + 1, hk => by
    obtain ⟨h1, h2, r, h3⟩ := km hm hx h k (by omega)
    rw [fJ]
    refine ⟨zK h1 (hm.nr x.toNat k (by omega) (by omega)), by show (_ ++ [_]).length = _; rw [aq, h2]; rfl, ?_⟩
    show ∃ r, mmA m (cO m x O k).1 _ = O ++ r
    unfold mmA
    split
    · exact ⟨r ++ [m.nxt x k], by rw [h3, List.append_assoc]⟩
    · exact ⟨r, h3⟩
theorem tK {m : Mly} (hm : MOK m) {t : Int} (ht : 0 ≤ t ∧ t < m.nx.length) : 0 ≤ cAt m t ∧ cAt m t < m.nx.length := pN hm _ _ (by omega)
/-plain-/
def mmB (m : Mly) : Bool := decide (aR m = 0) && decide ((mmF m).2.length = m.nx.length)
def fb (m : Mly) : Int := if ¬ aR m = 0 then aR m else if mmB m = true then 0 else 1
/-plain-/
def cmL (x : b7) : Bool := !(decide (x.2.1 = -1) && !decide (x.1.length = 1))
def l7 (T : List b7) : Bool := T.all cmL && decide (0 < T.length)
def eK (m : Mly) (T : List b7) : Int := if ¬ dR m = 0 then dR m else if 4096 < T.length ∨ ¬ rtF m T (T.length + 1) 0 (rgI m.nx.length) (rgI m.nx.length) = some T.length then 1 else 0
def fA (m : Mly) (T : List b7) : Int := if ¬ fb m = 0 then fb m else if 4096 < T.length ∨ ¬ rtF m T (T.length + 1) 0 (rgI m.nx.length) (rgI m.nx.length) = some T.length then 1 else 0
theorem lA (m : Mly) : cK m (rgI m.nx.length) := by
  intro s hs
  unfold rgI at hs
  obtain ⟨q, hq, rfl⟩ := List.mem_map.1 hs
  have := List.mem_range.1 hq
  omega
/-plain-/
theorem aX (n : Nat) : (List.range n).map (fun (i : Nat) => (i : Int)) = rgI n := rfl
theorem vD {m : Mly} (h : dR m = 0) : aR m = 0 := by
  unfold dR at h
  by_cases hv : aR m = 0
  · exact hv
  · rw [if_pos hv] at h; exact absurd h hv
theorem wg {m : Mly} (h : fb m = 0) : aR m = 0 := by
  unfold fb at h
  by_cases hv : aR m = 0
  · exact hv
  · rw [if_pos hv] at h; exact absurd h hv
theorem zM {m : Mly} {T : List b7} {f p : Nat} {ini cur : List Int} (h : (rtF m T f p ini cur).isSome = false ∨ ¬ rtP m T f p ini cur = (T.length : Int)) : ¬ rtF m T f p ini cur = some T.length := by
  intro e
  rcases h with h | h
  · rw [e] at h; cases h
  · exact h (da e)
theorem y4 {m : Mly} {T : List b7} {f p : Nat} {ini cur : List Int} (h : (rtF m T f p ini cur).isSome = true ∧ rtP m T f p ini cur = (T.length : Int)) : rtF m T f p ini cur = some T.length := by
  obtain ⟨n, e⟩ := Option.isSome_iff_exists.1 h.1
  have h2 := h.2
  rw [da e] at h2
  rw [e]; congr 1; omega
theorem uI {o : Option Nat} {n : Nat} : rtI o = (n : Int) ↔ o = some n := by
  cases o with
  | none => exact ⟨fun h => by have h9 : (-1 : Int) = n := h; omega, fun h => by cases h⟩
  | some k => exact ⟨fun h => by have h9 : (k : Int) = n := h; congr 1; omega, fun h => by cases h; rfl⟩
/-plain-/
theorem sh {xs : List Int} {j : Nat} (h : j < xs.length) : xs.getD j 0 = xs[j] := by simp [List.getD, h]
def kTo (K : List dN) (o : Int) : Int := match K.find? (fun k => decide (k.1 = o)) with | some k => k.2.1 | none => 0
def wdG (m : Mly) (T : List b7) : Nat → Nat → Int → List Int × Nat
  | 0, p, _ => ([], p)
  | f + 1, p, s => if (T.getD p nd0).2.1 < 0 then ([], p) else
    ((T.getD p nd0).2.1 :: (wdG m T f (kTo (T.getD p nd0).2.2.1 (m.out s (T.getD p nd0).2.1)).toNat (m.nxt s (T.getD p nd0).2.1)).1, (wdG m T f (kTo (T.getD p nd0).2.2.1 (m.out s (T.getD p nd0).2.1)).toNat (m.nxt s (T.getD p nd0).2.1)).2)
theorem pS {m : Mly} {T : List b7} {f p : Nat} {s : Int} (h : (T.getD p nd0).2.1 < 0) : wdG m T f p s = ([], p) := by
  cases f with
  | zero => rfl
  | succ f => exact if_pos h
theorem wb {m : Mly} {T : List b7} {f p : Nat} {s : Int} (h : ¬ (T.getD p nd0).2.1 < 0) : wdG m T (f + 1) p s =
    ((T.getD p nd0).2.1 :: (wdG m T f (kTo (T.getD p nd0).2.2.1 (m.out s (T.getD p nd0).2.1)).toNat (m.nxt s (T.getD p nd0).2.1)).1, (wdG m T f (kTo (T.getD p nd0).2.2.1 (m.out s (T.getD p nd0).2.1)).toNat (m.nxt s (T.getD p nd0).2.1)).2) := if_neg h
theorem sG : ∀ {K : List dN} {i : Nat} {o : Int}, i < K.length → (K.getD i kd0).1 = o → (∀ j, j < i → (K.getD j kd0).1 ≠ o) → kTo K o = (K.getD i kd0).2.1
  | k :: K, 0, o, _, h, _ => by
    have h' : k.1 = o := h
    unfold kTo; rw [List.find?_cons, decide_eq_true h']; rfl
  | k :: K, i + 1, o, hi, h, hn => by
    have h0 : ¬ k.1 = o := hn 0 (by omega)
    have ih := sG (K := K) (i := i) (o := o) (by simpa using hi) (by simpa [List.getD] using h) (fun j hj => by have := hn (j + 1) (by omega); simpa [List.getD] using this)
    unfold kTo at ih ⊢
    rw [List.find?_cons, decide_eq_false h0]
    simpa [List.getD] using ih
  | [], _, _, h, _, _ => by simp at h
structure RTI (m : Mly) (T : List b7) (p : Nat) (s : Int) : Prop where
  ex : ∃ f ini cur n, rtF m T f p ini cur = some n ∧ s ∈ cur ∧ cK m cur
theorem rL {m : Mly} {T : List b7} {rec : Nat → List Int → List Int → Option Nat} (hr : ∀ e i c n, rec e i c = some n → e < n ∧ n ≤ T.length) {ini cur : List Int} {x : b7} {p : Nat} : ∀ (k n : Nat), (List.range k).foldl (fh m rec ini cur x) (some (p + 1)) = some n →
    (p + 1 ≤ n) ∧ ∀ i, i < k → ∃ e n2, p + 1 ≤ e ∧ (x.2.2.1.getD i kd0).1 = (aC (ouL m cur x.2.1)).getD i 0 ∧ (x.2.2.1.getD i kd0).2.1 = (e : Int) ∧ rec e (bV m ini cur x.2.1 cur.length ((aC (ouL m cur x.2.1)).getD i 0)) (bB m cur x.2.1 cur.length ((aC (ouL m cur x.2.1)).getD i 0)) = some n2
  | 0, n, h => by
    simp only [List.range_zero, List.foldl_nil, Option.some.injEq] at h
    exact ⟨by omega, fun i hi => by omega⟩
  | k + 1, n, h => by
    rw [List.range_succ, List.foldl_append, List.foldl_cons, List.foldl_nil] at h
    cases h1 : (List.range k).foldl (fh m rec ini cur x) (some (p + 1)) with
    | none => rw [h1] at h; cases h
    | some e =>
      rw [h1] at h
      obtain ⟨h2, h3⟩ := rL hr k e h1
      by_cases hk : (x.2.2.1.getD k kd0).1 = (aC (ouL m cur x.2.1)).getD k 0 ∧ (x.2.2.1.getD k kd0).2.1 = (e : Int)
      · rw [kb hk] at h
        have h4 := hr _ _ _ _ h
        refine ⟨by omega, fun i hi => ?_⟩
        by_cases e9 : i = k
        · subst e9; exact ⟨e, n, h2, hk.1, hk.2, h⟩
        · exact h3 i (by omega)
      · rw [p5 hk] at h; cases h
theorem y0 {m : Mly} {T : List b7} {f p n : Nat} {ini cur : List Int} (h : rtF m T (f + 1) p ini cur = some n) : (p < T.length ∧ (T.getD p nd0).1 = ini ∧ cur.Nodup) ∧
    (((T.getD p nd0).2.1 = -1 ∧ (T.getD p nd0).2.2.1.length = 0 ∧ n = p + 1) ∨
     (0 ≤ (T.getD p nd0).2.1 ∧ (T.getD p nd0).2.1 < m.inp ∧ (aC (ouL m cur (T.getD p nd0).2.1)).length = (T.getD p nd0).2.2.1.length ∧ (List.range (T.getD p nd0).2.2.1.length).foldl (fh m (rtF m T f) ini cur (T.getD p nd0)) (some (p + 1)) = some n)) := by
  by_cases h1 : p < T.length ∧ (T.getD p nd0).1 = ini ∧ cur.Nodup
  · refine ⟨h1, ?_⟩
    by_cases h2 : (T.getD p nd0).2.1 = -1
    · rw [d4 h1 h2] at h
      by_cases h3 : (T.getD p nd0).2.2.1.length = 0
      · rw [if_pos h3] at h; cases h; exact .inl ⟨h2, h3, rfl⟩
      · rw [if_neg h3] at h; cases h
    · by_cases h3 : 0 ≤ (T.getD p nd0).2.1 ∧ (T.getD p nd0).2.1 < m.inp ∧ (aC (ouL m cur (T.getD p nd0).2.1)).length = (T.getD p nd0).2.2.1.length
      · rw [kq h1 h2 h3] at h
        exact .inr ⟨h3.1, h3.2.1, h3.2.2, h⟩
      · rw [jG h2 h3] at h; cases h
  · rw [kr h1] at h; cases h
theorem z8 {m : Mly} {cur : List Int} {a s : Int} (h : s ∈ cur) : m.nxt s a ∈ bB m cur a cur.length (m.out s a) := by
  obtain ⟨q, hq, rfl⟩ := mV.1 h
  unfold bB cu pkL
  rw [List.map_map]
  exact List.mem_map.2 ⟨(q : Int), jL.2 ⟨q, hq, rfl, rfl⟩, by simp⟩
theorem tc {m : Mly} (hm : MOK m) {T : List b7} {p : Nat} {s : Int} (h : RTI m T p s) (h0 : ¬ (T.getD p nd0).2.1 < 0) : p < T.length ∧ (0 ≤ s ∧ s < m.nx.length) ∧ (0 ≤ (T.getD p nd0).2.1 ∧ (T.getD p nd0).2.1 < m.inp) ∧
    ∃ i, i < (T.getD p nd0).2.2.1.length ∧ ((T.getD p nd0).2.2.1.getD i kd0).1 = m.out s (T.getD p nd0).2.1 ∧ (∀ j, j < (T.getD p nd0).2.2.1.length → ((T.getD p nd0).2.2.1.getD j kd0).1 = m.out s (T.getD p nd0).2.1 → j = i) ∧
      (p : Int) < ((T.getD p nd0).2.2.1.getD i kd0).2.1 ∧ ((T.getD p nd0).2.2.1.getD i kd0).2.1 < T.length ∧ RTI m T ((T.getD p nd0).2.2.1.getD i kd0).2.1.toNat (m.nxt s (T.getD p nd0).2.1) := by
  obtain ⟨f, ini, cur, n, hr, hs, hst⟩ := h.ex
  cases f with
  | zero => cases hr
  | succ f =>
    obtain ⟨hn, hk⟩ := y0 hr
    refine ⟨hn.1, hst s hs, ?_⟩
    rcases hk with ⟨h1, _⟩ | ⟨h1, h2, h3, h4⟩
    · omega
    · refine ⟨⟨h1, h2⟩, ?_⟩
      obtain ⟨_, hall⟩ := rL (fun e i c n h => iQ h) _ _ h4
      have hin : m.out s (T.getD p nd0).2.1 ∈ aC (ouL m cur (T.getD p nd0).2.1) := ((dn _).2 _).2 (List.mem_map.2 ⟨s, hs, rfl⟩)
      have hpl := gP hin
      have hgp := kX hin
      refine ⟨pos (aC (ouL m cur (T.getD p nd0).2.1)) (m.out s (T.getD p nd0).2.1), by omega, ?_, ?_, ?_⟩
      · obtain ⟨e, n2, _, h5, _⟩ := hall _ (by omega : pos (aC (ouL m cur (T.getD p nd0).2.1)) (m.out s (T.getD p nd0).2.1) < (T.getD p nd0).2.2.1.length)
        rw [h5]; exact hgp
      · intro j hj he
        obtain ⟨e, n2, _, h5, _⟩ := hall j hj
        rw [h5] at he
        have hso := (dn (ouL m cur (T.getD p nd0).2.1)).1
        have e1 : (aC (ouL m cur (T.getD p nd0).2.1)).getD j 0 = (aC (ouL m cur (T.getD p nd0).2.1))[j]'(by omega) := sh (by omega)
        have e2 : (aC (ouL m cur (T.getD p nd0).2.1)).getD (pos (aC (ouL m cur (T.getD p nd0).2.1)) (m.out s (T.getD p nd0).2.1)) 0 = (aC (ouL m cur (T.getD p nd0).2.1))[pos (aC (ouL m cur (T.getD p nd0).2.1)) (m.out s (T.getD p nd0).2.1)]'hpl := sh hpl
        rcases Nat.lt_trichotomy j (pos (aC (ouL m cur (T.getD p nd0).2.1)) (m.out s (T.getD p nd0).2.1)) with h6 | h6 | h6
        · have := List.pairwise_iff_getElem.1 hso _ _ (by omega) hpl h6
          omega
        · exact h6
        · have := List.pairwise_iff_getElem.1 hso _ _ hpl (by omega) h6
          omega
      · obtain ⟨e, n2, h6, h5, h7, h8⟩ := hall _ (by omega : pos (aC (ouL m cur (T.getD p nd0).2.1)) (m.out s (T.getD p nd0).2.1) < (T.getD p nd0).2.2.1.length)
        have h9 := iQ h8
        refine ⟨by omega, by omega, ?_⟩
        rw [h7, ah]
        rw [hgp] at h8
        exact ⟨f, _, _, n2, h8, z8 hs, mQ hm ⟨h1, h2⟩ hst⟩
def fo (m : Mly) (T : List b7) (s : Int) : List Int × Nat := wdG m T T.length 0 s
def fm (m : Mly) (T : List b7) (s : Int) : Int := if ¬ eK m T = 0 then eK m T else if s < 0 ∨ (m.nx.length : Int) ≤ s then 2 else 0
def eZ (m : Mly) (T : List b7) (s : Int) : Int := if ¬ fA m T = 0 then fA m T else if s < 0 ∨ (m.nx.length : Int) ≤ s then 2 else 0
theorem Ap {m : Mly} {T : List b7} (h : eK m T = 0) : aR m = 0 ∧ T.length ≤ 4096 ∧ rtF m T (T.length + 1) 0 (rgI m.nx.length) (rgI m.nx.length) = some T.length := by
  unfold eK at h
  by_cases h1 : dR m = 0
  · rw [if_neg (fun h => h h1)] at h
    by_cases h2 : 4096 < T.length ∨ ¬ rtF m T (T.length + 1) 0 (rgI m.nx.length) (rgI m.nx.length) = some T.length
    · rw [if_pos h2] at h; cases h
    · refine ⟨vD h1, by omega, ?_⟩
      exact Classical.byContradiction fun h3 => h2 (.inr h3)
  · rw [if_pos h1] at h; exact absurd h h1
theorem xT {m : Mly} {T : List b7} (h : fA m T = 0) : aR m = 0 ∧ T.length ≤ 4096 ∧ rtF m T (T.length + 1) 0 (rgI m.nx.length) (rgI m.nx.length) = some T.length := by
  unfold fA at h
  by_cases h1 : fb m = 0
  · rw [if_neg (fun h => h h1)] at h
    by_cases h2 : 4096 < T.length ∨ ¬ rtF m T (T.length + 1) 0 (rgI m.nx.length) (rgI m.nx.length) = some T.length
    · rw [if_pos h2] at h; cases h
    · refine ⟨wg h1, by omega, ?_⟩
      exact Classical.byContradiction fun h3 => h2 (.inr h3)
  · rw [if_pos h1] at h; exact absurd h h1
theorem qT {m : Mly} {T : List b7} {s : Int} (h : rtF m T (T.length + 1) 0 (rgI m.nx.length) (rgI m.nx.length) = some T.length) (hs : 0 ≤ s ∧ s < m.nx.length) : RTI m T 0 s :=
  ⟨_, _, _, _, h, List.mem_map.2 ⟨s.toNat, List.mem_range.2 (by omega), by omega⟩, lA m⟩
theorem wH {m : Mly} {T : List b7} {p : Nat} {s : Int} (h : RTI m T p s) : p < T.length := by
  obtain ⟨f, ini, cur, n, hr, _⟩ := h.ex
  have := iQ hr; omega
theorem tF {m : Mly} {T : List b7} {f p : Nat} {s t : Int} {W : List Int} {i : Nat} (h0 : ¬ (T.getD p nd0).2.1 < 0) (hi : i < (T.getD p nd0).2.2.1.length) (h1 : ((T.getD p nd0).2.2.1.getD i kd0).1 = m.out s (T.getD p nd0).2.1) (h2 : ∀ j, j < (T.getD p nd0).2.2.1.length → ((T.getD p nd0).2.2.1.getD j kd0).1 = m.out s (T.getD p nd0).2.1 → j = i)
    (h : (W ++ (wdG m T (f + 1) p s).1, (wdG m T (f + 1) p s).2) = fo m T t) : ((W ++ [(T.getD p nd0).2.1]) ++ (wdG m T f ((T.getD p nd0).2.2.1.getD i kd0).2.1.toNat (m.nxt s (T.getD p nd0).2.1)).1, (wdG m T f ((T.getD p nd0).2.2.1.getD i kd0).2.1.toNat (m.nxt s (T.getD p nd0).2.1)).2) = fo m T t := by
  rw [← h, wb h0, sG hi h1 (fun j hj e => by have := h2 j (by omega) e; omega)]
  simp
/-plain-/
def prL (f : Nat → Int) (n s : Nat) (x : Int) : List Int := (List.range n).map fun q => if q < s then f q else if q = s then x else 0
theorem oN (f : Nat → Int) (n s : Nat) (x : Int) : (prL f n s x).length = n := by simp [prL]
theorem uo {f : Nat → Int} {n s : Nat} (h : s < n) (x y : Int) : (prL f n s x).set s y = prL f n s y := by
  refine List.ext_getElem (by simp [prL]) fun i h1 h2 => ?_
  simp only [prL, List.getElem_set, List.getElem_map, List.getElem_range]
  by_cases e : s = i
  · subst e; simp
  · rw [if_neg e, if_neg (Ne.symm e), if_neg (Ne.symm e)]
theorem qR (f : Nat → Int) (n s : Nat) : prL f n s (f s) = prL f n (s + 1) 0 := by
  unfold prL
  refine List.map_congr_left fun q _ => ?_
  by_cases e : q = s
  · subst e; simp
  · by_cases e2 : q < s
    · rw [if_pos e2, if_pos (by omega)]
    · rw [if_neg e2, if_neg e, if_neg (by omega)]; split <;> rfl
theorem z9 (f : Nat → Int) (n : Nat) : prL f n 0 0 = List.replicate n 0 := by
  refine List.ext_getElem (by simp [prL]) fun i h1 h2 => ?_
  simp [prL]
theorem tN (f : Nat → Int) (n : Nat) (x : Int) : prL f n n x = (List.range n).map f := by
  unfold prL
  refine List.map_congr_left fun q hq => ?_
  rw [if_pos (List.mem_range.1 hq)]
def bI1 (b : Bool) : Int := if b = true then 1 else 0
def Bh (d : Dfa) (s : Nat) : Int := bI1 (d.acc.getD s false)
/-plain-/
theorem xt {C : Ctx} {Q : Go.Exit → St → Prop} {s : St} {c : Go.Code} {L1 G : List AO} (hG : G = [] ∨ ∃ ob, G = [ob]) (hL : s.L = L1 ++ G) (hB : C.bL.length ≤ L1.length) (he : s.env.all (fun x => gm L1.length x.2) = true) (ho : L1.all (dO L1.length) = true)
    (h : AWP C c Q { env := s.env, L := L1 }) : AWP C c Q s := by
  rcases hG with rfl | ⟨ob, rfl⟩
  · rw [List.append_nil] at hL
    have : s = { env := s.env, L := L1 } := by cases s; simp only at hL; rw [hL]
    rw [this]; exact h
  · exact eg hL hB he ho h
/-plain-/
theorem gH (m : Mly) (cur : List Int) (a o : Int) : cu m (bV m cur cur a cur.length o) a = bB m cur a cur.length o := rfl
theorem iw (m : Mly) (ini cur : List Int) (a o : Int) : pkL ini (ptL m cur a o cur.length) = bV m ini cur a cur.length o := rfl
theorem zX {m : Mly} {cur : List Int} {a o : Int} (h : cK m cur) : cK m (pkL cur (ptL m cur a o cur.length)) := by
  intro s hs
  unfold pkL at hs
  obtain ⟨x, hx, rfl⟩ := List.mem_map.1 hs
  obtain ⟨q, hq, _, rfl⟩ := jL.1 hx
  rw [ah]
  exact h _ (bl hq)
theorem t8 {m : Mly} {cur : List Int} {a o : Int} {n : Nat} (hn : n = cur.length) : ∀ x ∈ ptL m cur a o cur.length, 0 ≤ x ∧ x < n := by
  intro x hx
  obtain ⟨q, hq, _, rfl⟩ := jL.1 hx
  omega
/-plain-/
structure MIN12 (m : Mly) : Prop where
  rc : ∀ s : Int, 0 ≤ s → s < m.nx.length → s ∈ m.reach
  ds : ∀ s t : Int, 0 ≤ s → s < m.nx.length → 0 ≤ t → t < m.nx.length → EQV m s t → s = t
theorem o4 (n : Nat) : (rgI n).Nodup := List.pairwise_map.2 (List.nodup_range.imp fun {a b} h e => h (by omega))
theorem ug {n : Nat} {l : List Int} (hn : l.Nodup) (hr : ∀ x, x ∈ l → 0 ≤ x ∧ x < n) (hl : l.length = n) {s : Int} (h0 : 0 ≤ s) (h1 : s < n) : s ∈ l := by
  by_cases e : s ∈ l
  · exact e
  · exfalso
    have := eQ n (s :: l) (List.nodup_cons.2 ⟨e, hn⟩) (fun x hx => by
      rcases List.mem_cons.1 hx with h | h
      · rw [h]; exact ⟨h0, h1⟩
      · exact hr x h)
    simp only [au] at this
    omega
theorem qs {n : Nat} {l : List Int} (h : ∀ s : Int, 0 ≤ s → s < n → s ∈ l) : n ≤ l.length := by
  have h1 := o4 n
  have h2 := dV (rgI n) l h1 fun x hx => by
    unfold rgI at hx
    obtain ⟨q, hq, rfl⟩ := List.mem_map.1 hx
    have := List.mem_range.1 hq
    exact h _ (by omega) (by omega)
  rw [dc] at h2; exact h2
theorem yz (t : Mly) : t.reps.length ≤ t.nx.length := by
  unfold Mly.reps dD
  exact Nat.le_trans (List.length_filter_le _ _) (by simp)
theorem Ay {t : Mly} (ht : MOK t) (h : t.reps.length = t.nx.length) {s : Int} (h0 : 0 ≤ s) (h1 : s < t.nx.length) : t.f s = s := by
  have e : t.reps = List.range t.nx.length := by
    unfold Mly.reps dD at h ⊢
    refine List.filter_eq_self.2 ?_
    refine List.length_filter_eq_length_iff.1 ?_
    rw [h]; simp
  have h2 := ((gC ht).at_ s.toNat (by
    have : (dD t.eqc t.nx.length).length = t.nx.length := h
    omega)).2
  have h3 : (dD t.eqc t.nx.length).getD s.toNat 0 = s.toNat := by
    have : dD t.eqc t.nx.length = List.range t.nx.length := e
    rw [this]
    simp [List.getD, show s.toNat < t.nx.length by omega]
  rw [h3] at h2
  show t.eqc.getD s.toNat 0 = s
  rw [h2]; omega
theorem yj {m : Mly} (hv : aR m = 0) : mnB m = true ↔ MIN12 m := by
  have hm := eO hv
  have ht := rd hm
  have hT : m.T.nx.length = m.reach.length := sL m
  have hR := fK hm
  have hmr : m.mres.nx.length = m.T.reps.length := by unfold Mly.mres; rw [if_pos hv]; exact oQ m.T
  unfold mnB
  rw [decide_eq_true hv, Bool.true_and, Bool.and_eq_true, decide_eq_true_eq, decide_eq_true_eq, hmr]
  constructor
  · rintro ⟨h1, h2⟩
    have hrc : ∀ s : Int, 0 ≤ s → s < m.nx.length → s ∈ m.reach := fun s h0 h3 => ug hR.nd hR.rng h1 h0 h3
    refine ⟨hrc, fun s t s0 s1 t0 t1 he => ?_⟩
    have hs := hrc s s0 s1
    have htt := hrc t t0 t1
    have x1 := mg hm hs
    have x2 := mg hm htt
    have he2 : EQV m.T (m.ix s) (m.ix t) := fun w hw => by
      rw [(tM hm hs w hw).2.2, (tM hm htt w hw).2.2]; exact he w hw
    have h3 := (ly ht (by omega) (by omega) (by omega) (by omega)).2 he2
    have f1 := Ay ht (by omega) (s := m.ix s) (by omega) (by omega)
    have f2 := Ay ht (by omega) (s := m.ix t) (by omega) (by omega)
    exact w4 hm hs htt (by
      rw [← f1, ← f2]; exact h3)
  · intro h
    have h1 : m.reach.length = m.nx.length := Nat.le_antisymm hR.len (qs h.rc)
    refine ⟨h1, ?_⟩
    have hle := yz m.T
    refine Nat.le_antisymm (by omega) ?_
    have hnd : ((rgI m.nx.length).map m.T.f).Nodup := by
      have h0 := o4 m.nx.length
      refine List.pairwise_map.2 (List.Pairwise.imp_of_mem (fun {a b} ha hb hne e => hne ?_) h0)
      have ra := gV.1 ha
      have rb := gV.1 hb
      have he := (ly ht (s := a) (t := b) (by omega) (by omega) (by omega) (by omega)).1 e
      have ga : m.reach.getD a.toNat 0 ∈ m.reach := bl (by omega)
      have gb : m.reach.getD b.toNat 0 ∈ m.reach := bl (by omega)
      have ia := ml hm (i := a.toNat) (by omega)
      have ib := ml hm (i := b.toNat) (by omega)
      have he2 : EQV m (m.reach.getD a.toNat 0) (m.reach.getD b.toNat 0) := fun w hw => by
        rw [← (tM hm ga w hw).2.2, ← (tM hm gb w hw).2.2, ia, ib]
        rw [show ((a.toNat : Nat) : Int) = a by omega, show ((b.toNat : Nat) : Int) = b by omega]
        exact he w hw
      have r1 := hR.rng _ ga
      have r2 := hR.rng _ gb
      have := h.ds _ _ r1.1 r1.2 r2.1 r2.2 he2
      have := iu hR.nd (by omega) (by omega) this
      omega
    have := eQ m.T.reps.length _ hnd (fun x hx => by
      obtain ⟨y, hy, rfl⟩ := List.mem_map.1 hx
      have ry := gV.1 hy
      exact mN ht (by omega) (by omega))
    rw [aD, dc] at this
    exact this
theorem wu {m : Mly} {P : Int → Prop} (hc : ∀ x, P x → ∀ y, y ∈ m.row x → P y) : ∀ (f i : Nat) (l : List Int), (∀ x, x ∈ l → P x) → ∀ x, x ∈ m.rf f i l → P x
  | 0, _, _, h => h
  | f + 1, i, l, h => by
    intro x hx
    rw [Mly.rf] at hx
    split at hx
    · rename_i hi
      refine wu hc f (i + 1) _ (fun y hy => ?_) x hx
      rcases gn.1 hy with h1 | h1
      · exact h y h1
      · exact hc _ (h _ (bl hi)) y h1
    · exact h x hx
theorem qy {m : Mly} (hm : MOK m) {s t : Nat} (hs : s < m.nx.length) (ht : t < m.nx.length) : ∀ (d j : Nat), (m.cls (j + d)).getD s 0 = (m.cls (j + d)).getD t 0 → (m.cls j).getD s 0 = (m.cls j).getD t 0
  | 0, _, h => h
  | d + 1, j, h => qy hm hs ht d j (iS hm (j + d) s t hs ht h)
theorem t9 {m : Mly} (hm : MOK m) {s t : Int} (s0 : 0 ≤ s) (s1 : s < m.nx.length) (t0 : 0 ≤ t) (t1 : t < m.nx.length) : cAt m s = cAt m t ↔ EQV m s t := by
  constructor
  · intro h
    refine (ly hm s0 s1 t0 t1).1 ?_
    obtain ⟨j, h1, h2, _⟩ := jW hm
    rw [h1]
    refine qy hm (by omega) (by omega) (m.nx.length - j) j ?_
    rw [show j + (m.nx.length - j) = m.nx.length by omega]
    exact h
  · intro h
    exact oX hm m.nx.length s.toNat t.toNat (by omega) (by omega) (by rw [Int.toNat_of_nonneg s0, Int.toNat_of_nonneg t0]; exact h)
theorem zc {m : Mly} (O : List Int) (t : Int) : ∃ o, o ∈ mmA m O t ∧ cAt m o = cAt m t := by
  unfold mmA
  split
  · exact ⟨t, by simp, rfl⟩
  · rename_i hn
    rcases lx (m := m) (c := cAt m t) O 0 with ⟨h1, _⟩ | ⟨_, _, o, h2, h3⟩
    · unfold nmO at hn; omega
    · exact ⟨o, h2, h3⟩
theorem zp {m : Mly} {O : List Int} {t x : Int} (h : x ∈ mmA m O t) : x ∈ O ∨ x = t := by
  unfold mmA at h
  split at h
  · rcases List.mem_append.1 h with h | h
    · exact .inl h
    · exact .inr (List.mem_singleton.1 h)
  · exact .inl h
theorem uC {m : Mly} {O : List Int} {t x : Int} (h : x ∈ O) : x ∈ mmA m O t := by
  unfold mmA; split
  · exact List.mem_append_left _ h
  · exact h
theorem zv {m : Mly} (hm : MOK m) {x : Int} (hx : 0 ≤ x ∧ x < m.nx.length) {a : Nat} (ha : (a : Int) < m.inp) : m.nxt x a ∈ m.row x := by
  have := hm.rl x.toNat (by omega)
  exact bl (by unfold Mly.row; omega)
theorem qF {m : Mly} (hm : MOK m) {x : Int} (hx : 0 ≤ x ∧ x < m.nx.length) (hr : x ∈ m.reach) {O : List Int} (hO : ∀ o ∈ O, o ∈ m.reach) : ∀ k : Nat, (k : Int) ≤ m.inp →
    (∀ o ∈ (cO m x O k).1, o ∈ m.reach) ∧ (∀ o ∈ O, o ∈ (cO m x O k).1) ∧ ∀ a : Nat, a < k → ∃ o, o ∈ (cO m x O k).1 ∧ cAt m o = cAt m (m.nxt x a)
  | 0, _ => ⟨hO, fun o h => h, fun a h => by omega⟩
  | k + 1, hk => by
    obtain ⟨h1, h2, h3⟩ := qF hm hx hr hO k (by omega)
    rw [fJ]
    refine ⟨fun o ho => ?_, fun o ho => uC (h2 o ho), fun a ha => ?_⟩
    · rcases zp ho with h | h
      · exact h1 o h
      · rw [h]; exact fv hm hr (zv hm hx (by omega))
    · by_cases e : a = k
      · rw [e]; exact zc _ _
      · obtain ⟨o, h4, h5⟩ := h3 a (by omega)
        exact ⟨o, uC h4, h5⟩
structure MMI (m : Mly) (i : Nat) (p : List Int × List (List Int)) : Prop where
  mo : MO m p.1
  rc : ∀ o ∈ p.1, o ∈ m.reach
  st : m.st ∈ p.1
  ln : p.2.length = i
  le : i ≤ p.1.length
  cl : ∀ j, j < i → ∀ a : Nat, (a : Int) < m.inp → ∃ o, o ∈ p.1 ∧ cAt m o = cAt m (m.nxt (p.1.getD j 0) a)
theorem qq {m : Mly} (hm : MOK m) : ∀ (f i : Nat) (p : List Int × List (List Int)), m.nx.length < f + i → MMI m i p → MMI m (nJ m f i p).1.length (nJ m f i p)
  | 0, i, p, h, hI => by
    have := hI.mo.len; have := hI.le; omega
  | f + 1, i, p, h, hI => by
    by_cases e : i < p.1.length
    · rw [pZ e]
      have hx := hI.mo.rng _ (bl e)
      have hi := hm.i1
      obtain ⟨r1, r2, r, r3⟩ := km hm hx hI.mo m.inp.toNat (by omega)
      obtain ⟨s1, s2, s3⟩ := qF hm hx (hI.rc _ (bl e)) hI.rc m.inp.toNat (by omega)
      refine qq hm f (i + 1) _ (by omega) ⟨r1, s1, s2 _ hI.st, by simp [hI.ln], ?_, fun j hj a ha => ?_⟩
      · show i + 1 ≤ (cO m (p.1.getD i 0) p.1 m.inp.toNat).1.length
        rw [r3, aq]; omega
      · have hg : (cO m (p.1.getD i 0) p.1 m.inp.toNat).1.getD j 0 = p.1.getD j 0 := by rw [r3, l6 (by omega)]
        show ∃ o, o ∈ (cO m (p.1.getD i 0) p.1 m.inp.toNat).1 ∧ cAt m o = cAt m (m.nxt ((cO m (p.1.getD i 0) p.1 m.inp.toNat).1.getD j 0) a)
        rw [hg]
        by_cases e2 : j = i
        · rw [e2]; exact s3 a (by omega)
        · obtain ⟨o, h1, h2⟩ := hI.cl j (by omega) a ha
          exact ⟨o, s2 o h1, h2⟩
    · rw [qZ e]
      have : i = p.1.length := by have := hI.le; omega
      rw [← this]; exact hI
theorem xV {m : Mly} (hm : MOK m) : MMI m (mmF m).1.length (mmF m) := by
  have hs1 := hm.s1; have hs2 := hm.s2
  refine qq hm _ _ _ (by omega) ⟨⟨fun o ho => ?_, List.pairwise_singleton _ _⟩, fun o ho => ?_, by simp, rfl, Nat.zero_le _, fun j hj => by omega⟩
  · rw [List.mem_singleton] at ho; rw [ho]; exact ⟨hs1, hs2⟩
  · rw [List.mem_singleton] at ho; rw [ho]
    obtain ⟨k, hk⟩ := iG hm
    rw [hk]; exact aQ ..
theorem yn {m : Mly} (hv : aR m = 0) : mmB m = true ↔ MIN12 m := by
  have hm := eO hv
  have hI := xV hm
  unfold mmB
  rw [decide_eq_true hv, Bool.true_and, decide_eq_true_eq, hI.ln]
  constructor
  · intro h1
    have hall : ∀ s : Int, 0 ≤ s → s < m.nx.length → s ∈ (mmF m).1 := fun s h0 h2 => ug hI.mo.nd hI.mo.rng h1 h0 h2
    refine ⟨fun s h0 h2 => hI.rc s (hall s h0 h2), fun s t s0 s1 t0 t1 he => ?_⟩
    have hc := (t9 hm s0 s1 t0 t1).2 he
    obtain ⟨i, hi, ei⟩ := fR (hall s s0 s1)
    obtain ⟨j, hj, ej⟩ := fR (hall t t0 t1)
    have gi : (mmF m).1.getD i 0 = (mmF m).1[i] := by simp [List.getD, hi]
    have gj : (mmF m).1.getD j 0 = (mmF m).1[j] := by simp [List.getD, hj]
    rcases Nat.lt_trichotomy i j with h | h | h
    · exact absurd (by rw [← gi, ← gj, ei, ej]; exact hc) (List.pairwise_iff_getElem.1 hI.mo.cd i j hi hj h)
    · subst h; rw [← ei, ← ej]
    · exact absurd (by rw [← gi, ← gj, ei, ej]; exact hc.symm) (List.pairwise_iff_getElem.1 hI.mo.cd j i hj hi h)
  · intro h
    refine Nat.le_antisymm hI.mo.len (qs fun s h0 h1 => ?_)
    have hs := h.rc s h0 h1
    rw [dG hv] at hs
    refine wu (P := fun x => x ∈ (mmF m).1) (fun x hx y hy => ?_) _ _ _ (fun x hx => ?_) s hs
    · obtain ⟨j, hj, ej⟩ := fR hx
      have rx := hI.mo.rng x hx
      obtain ⟨a, ha, ea⟩ := fR hy
      have hrl := hm.rl x.toNat (by omega)
      obtain ⟨o, o1, o2⟩ := hI.cl j hj a (by unfold Mly.row at ha; omega)
      rw [ej] at o2
      have ro := hI.mo.rng o o1
      have e2 : m.nxt x a = y := by rw [← ea]; rfl
      rw [e2] at o2
      have ry := gF hm (s := x) (by omega) (by omega) y hy
      have := h.ds _ _ ro.1 ro.2 ry.1 ry.2 ((t9 hm ro.1 ro.2 ry.1 ry.2).1 o2)
      rw [← this]; exact o1
    · rw [List.mem_singleton] at hx; rw [hx]; exact hI.st
theorem z3 {m : Mly} : mnB m = mmB m := by
  by_cases hv : aR m = 0
  · rw [Bool.eq_iff_iff, yj hv, yn hv]
  · unfold mnB mmB; rw [decide_eq_false hv]; rfl
theorem um (m : Mly) : dR m = fb m := by unfold dR fb; rw [z3]
/-plain-/
def knB (Q : List SS) (x : List Int) (j : Nat) : Bool := (List.range j).any fun q => decide ((Q.getD q ss0).1 = x)
theorem rR {Q : List SS} {x : List Int} (h : dK Q x < Q.length) : (Q.getD (dK Q x) ss0).1 = x := by
  induction Q with
  | nil => simp [dK] at h
  | cons s Q ih =>
    by_cases e : s.1 = x
    · have p1 : dK (s :: Q) x = 0 := if_pos e
      rw [p1]; exact e
    · have p1 : dK (s :: Q) x = dK Q x + 1 := if_neg e
      rw [p1] at h ⊢
      exact ih (by simpa using h)
theorem zk (Q : List SS) (x : List Int) : knB Q x Q.length = decide (dK Q x < Q.length) := by
  by_cases e : dK Q x < Q.length
  · rw [decide_eq_true e]
    exact List.any_eq_true.2 ⟨_, List.mem_range.2 e, by rw [decide_eq_true_eq]; exact rR e⟩
  · rw [decide_eq_false e]
    unfold knB
    rw [List.any_eq_false]
    intro q hq hb
    have hq2 := List.mem_range.1 hq
    rw [decide_eq_true_eq] at hb
    have : ¬ ∀ j, j < Q.length → (Q.getD j ss0).1 ≠ x := fun h => h q hq2 hb
    apply e
    have hle := tu Q x
    by_cases e3 : dK Q x = Q.length
    · exfalso
      have key : ∀ (Q : List SS) (q : Nat), q < Q.length → (Q.getD q ss0).1 = x → dK Q x ≤ q := by
        intro Q
        induction Q with
        | nil => intro q h; simp at h
        | cons s Q ih =>
          intro q h hb
          by_cases e : s.1 = x
          · have p1 : dK (s :: Q) x = 0 := if_pos e
            omega
          · have p1 : dK (s :: Q) x = dK Q x + 1 := if_neg e
            match q, h, hb with
            | 0, _, hb => exact absurd (by simpa using hb) e
            | q + 1, h, hb =>
              have := ih q (by simpa using h) (by simpa using hb)
              omega
      have := key Q q hq2 hb
      omega
    · omega
/-plain-/
def dr (m : Mly) : List Int → List Int → List Int
  | l, [] => l
  | l, a :: w => dr m (cu m l a) w
def chW (m : Mly) : List Int → List Int → Prop
  | _, [] => True
  | l, a :: w => (unS m l a l.length = false ∧ smO m l a l.length = true) ∧ chW m (cu m l a) w
def spW (m : Mly) (l w : List Int) : Prop := ∃ v a, w = v ++ [a] ∧ chW m l v ∧ unS m (dr m l v) a (dr m l v).length = false ∧ smO m (dr m l v) a (dr m l v).length = false
theorem gu {m : Mly} : ∀ {v w l : List Int}, dr m l (v ++ w) = dr m (dr m l v) w
  | [], _, _ => rfl
  | _ :: v, w, _ => gu (v := v) (w := w)
theorem gZ {m : Mly} : ∀ {v w l : List Int}, chW m l (v ++ w) ↔ chW m l v ∧ chW m (dr m l v) w
  | [], _, _ => ⟨fun h => ⟨trivial, h⟩, fun h => h.2⟩
  | a :: v, w, l => by
    have ih := gZ (m := m) (v := v) (w := w) (l := cu m l a)
    constructor
    · rintro ⟨h1, h2⟩; have h3 := ih.1 h2; exact ⟨⟨h1, h3.1⟩, h3.2⟩
    · rintro ⟨⟨h1, h2⟩, h3⟩; exact ⟨h1, ih.2 ⟨h2, h3⟩⟩
theorem rz (m : Mly) (l : List Int) (a : Int) : dr m l [a] = cu m l a := rfl
theorem sN {m : Mly} {l w : List Int} (h : spW m l w) : w ≠ [] := by
  obtain ⟨v, a, rfl, _⟩ := h; simp
theorem mM {m : Mly} {l w : List Int} {a : Int} : spW m l (a :: w) ↔ unS m l a l.length = false ∧ ((w = [] ∧ smO m l a l.length = false) ∨ (smO m l a l.length = true ∧ spW m (cu m l a) w)) := by
  constructor
  · rintro ⟨v, b, e, h1, h2, h3⟩
    cases v with
    | nil =>
      simp only [b6, List.cons.injEq] at e
      obtain ⟨rfl, rfl⟩ := e
      exact ⟨h2, .inl ⟨rfl, h3⟩⟩
    | cons c v =>
      simp only [aM, List.cons.injEq] at e
      obtain ⟨rfl, rfl⟩ := e
      exact ⟨h1.1.1, .inr ⟨h1.1.2, v, b, rfl, h1.2, h2, h3⟩⟩
  · rintro ⟨h1, ⟨rfl, h2⟩ | ⟨h2, v, b, rfl, h3, h4, h5⟩⟩
    · exact ⟨[], a, rfl, trivial, h1, h2⟩
    · exact ⟨a :: v, b, rfl, ⟨⟨h1, h2⟩, h3⟩, h4, h5⟩
theorem fY {Q : List SS} {s : SS} {i : Nat} (h : i < Q.length) : (Q ++ [s]).getD i ss0 = Q.getD i ss0 := by simp [List.getD, List.getElem?_append_left h]
theorem lj {Q : List SS} {s : SS} : (Q ++ [s]).getD Q.length ss0 = s := by simp [List.getD]
theorem jl {Q : List SS} {s : SS} : (Q ++ [s]).length = Q.length + 1 := by simp
structure BFQ (m : Mly) (l : List Int) (Q : List SS) : Prop where
  rt : 0 < Q.length ∧ Q.getD 0 ss0 = (l, [])
  pt : ∀ k, k < Q.length → chW m l (Q.getD k ss0).2 ∧ (Q.getD k ss0).1 = dr m l (Q.getD k ss0).2 ∧ dA m (Q.getD k ss0).2
  mo : ∀ j k, j ≤ k → k < Q.length → (Q.getD j ss0).2.length ≤ (Q.getD k ss0).2.length
  nd : ∀ j k, j < k → k < Q.length → (Q.getD j ss0).1 ≠ (Q.getD k ss0).1
  le : Q.length ≤ 4096
def clQ (m : Mly) (Q : List SS) (j : Nat) (b : Int) : Prop := unS m (Q.getD j ss0).1 b (Q.getD j ss0).1.length = false → smO m (Q.getD j ss0).1 b (Q.getD j ss0).1.length = true ∧ ∃ k, k < Q.length ∧ (Q.getD k ss0).1 = cu m (Q.getD j ss0).1 b ∧ (Q.getD k ss0).2.length ≤ (Q.getD j ss0).2.length + 1
structure BFI (m : Mly) (l : List Int) (i a : Nat) (Q : List SS) : Prop where
  q : BFQ m l Q
  cl : ∀ j, j < i → ∀ b : Nat, b < m.inp.toNat → clQ m Q j b
  pc : ∀ b : Nat, b < a → clQ m Q i b
  up : ∀ k, k < Q.length → i < Q.length → (Q.getD k ss0).2.length ≤ (Q.getD i ss0).2.length + 1
theorem qu {m : Mly} {Q : List SS} {s : SS} {j : Nat} {b : Int} (hj : j < Q.length) (h : clQ m Q j b) : clQ m (Q ++ [s]) j b := by
  unfold clQ at h ⊢
  rw [fY hj]
  intro h1
  obtain ⟨h2, k, h3, h4, h5⟩ := h h1
  exact ⟨h2, k, by rw [jl]; omega, by rw [fY h3]; exact h4, by rw [fY h3]; exact h5⟩
theorem sZ {m : Mly} {l : List Int} {Q : List SS} (hq : BFQ m l Q) {D : Nat} (hc : ∀ j, j < Q.length → (Q.getD j ss0).2.length < D → ∀ b : Nat, b < m.inp.toNat → clQ m Q j b) :
    ∀ (n : Nat) (v : List Int), v.length = n → n ≤ D → dA m v → chW m l v → ∃ j, j < Q.length ∧ (Q.getD j ss0).1 = dr m l v ∧ (Q.getD j ss0).2.length ≤ n
  | 0, v, hv, _, _, _ => by
    have : v = [] := List.eq_nil_of_length_eq_zero hv
    subst this
    refine ⟨0, hq.rt.1, ?_, ?_⟩
    · rw [hq.rt.2]; rfl
    · rw [hq.rt.2]; exact Nat.le_refl _
  | n + 1, v, hv, hn, hw, hch => by
    have hne : v ≠ [] := fun e => by rw [e] at hv; cases hv
    obtain ⟨u, b, rfl⟩ : ∃ u b, v = u ++ [b] := ⟨v.dropLast, v.getLast hne, (List.dropLast_concat_getLast hne).symm⟩
    rw [aq] at hv
    simp only [au, aG] at hv
    obtain ⟨h1, h2⟩ := gZ.1 hch
    have hb := hw b (by simp)
    obtain ⟨j, j1, j2, j3⟩ := sZ hq hc n u (by omega) (by omega) (fun x hx => hw x (List.mem_append_left _ hx)) h1
    have hcl := hc j j1 (by omega) b.toNat (by omega)
    rw [show ((b.toNat : Nat) : Int) = b by omega] at hcl
    unfold clQ at hcl
    rw [j2] at hcl
    obtain ⟨_, k, k1, k2, k3⟩ := hcl h2.1.1
    refine ⟨k, k1, ?_, by omega⟩
    rw [k2, gu, rz]
theorem BFI.clz {m : Mly} {l : List Int} {i a : Nat} {Q : List SS} (h : BFI m l i a Q) (hi : i < Q.length) : ∀ j, j < Q.length → (Q.getD j ss0).2.length < (Q.getD i ss0).2.length → ∀ b : Nat, b < m.inp.toNat → clQ m Q j b := by
  intro j hj hl b hb
  refine h.cl j ?_ b hb
  by_cases e : j < i
  · exact e
  · have := h.q.mo i j (by omega) hj; omega
def BFT (m : Mly) (l : List Int) (i a : Nat) (t : F12) : Prop := match t.res with
  | none => BFI m l i a t.Q ∧ i < t.Q.length
  | some (some w) => spW m l w ∧ ∀ v, dA m v → spW m l v → w.length ≤ v.length
  | some none => BFQ m l t.Q ∧ 4096 ≤ t.Q.length
theorem zC {m : Mly} {l : List Int} {i a : Nat} {Q : List SS} (h : BFI m l i a Q) (hi : i < Q.length) (h1 : unS m (Q.getD i ss0).1 a (Q.getD i ss0).1.length = false) (h2 : smO m (Q.getD i ss0).1 a (Q.getD i ss0).1.length = false) :
    spW m l (dS Q i a) ∧ ∀ v, dA m v → spW m l v → (dS Q i a).length ≤ v.length := by
  obtain ⟨p1, p2, p3⟩ := h.q.pt i hi
  constructor
  · exact ⟨_, _, rfl, p1, by rw [← p2]; exact h1, by rw [← p2]; exact h2⟩
  · rintro v hv ⟨u, b, rfl, s1, s2, s3⟩
    unfold dS
    rw [aq, aq]
    simp only [au, aG]
    by_cases e : (Q.getD i ss0).2.length ≤ u.length
    · omega
    · exfalso
      have hb := hv b (by simp)
      obtain ⟨j, j1, j2, j3⟩ := sZ h.q (h.clz hi) u.length u rfl (by omega) (fun x hx => hv x (List.mem_append_left _ hx)) s1
      have hcl := h.clz hi j j1 (by omega) b.toNat (by omega)
      rw [show ((b.toNat : Nat) : Int) = b by omega] at hcl
      unfold clQ at hcl
      rw [j2] at hcl
      have := (hcl s2).1
      rw [s3] at this; cases this
theorem zx {Q : List SS} {x : List Int} (h : ¬ dK Q x < Q.length) : ∀ k, k < Q.length → (Q.getD k ss0).1 ≠ x := by
  intro k hk e
  have h1 := zk Q x
  rw [decide_eq_false h] at h1
  have : knB Q x Q.length = true := List.any_eq_true.2 ⟨k, List.mem_range.2 hk, by rw [decide_eq_true_eq]; exact e⟩
  rw [h1] at this; cases this
theorem AH {m : Mly} {l : List Int} {i a : Nat} {t : F12} (h : BFT m l i a t) (ha : a < m.inp.toNat) : BFT m l i (a + 1) (d8 m i t a) := by
  obtain ⟨Q, res⟩ := t
  cases res with
  | some r =>
    have e : d8 m i ⟨Q, some r⟩ a = ⟨Q, some r⟩ := rfl
    rw [e]
    cases r with
    | some w => exact h
    | none => exact h
  | none =>
    obtain ⟨hI, hi⟩ : BFI m l i a Q ∧ i < Q.length := h
    cases hu : unS m (Q.getD i ss0).1 a (Q.getD i ss0).1.length with
    | true =>
      rw [yX hu]
      refine ⟨⟨hI.q, hI.cl, fun b hb => ?_, hI.up⟩, hi⟩
      by_cases e : b = a
      · subst e; intro h1; rw [hu] at h1; cases h1
      · exact hI.pc b (by omega)
    | false =>
      cases hs : smO m (Q.getD i ss0).1 a (Q.getD i ss0).1.length with
      | false => rw [ww hu hs]; exact zC hI hi hu hs
      | true =>
        by_cases h3 : dK Q (fg m Q i a) < Q.length
        · rw [wF hu hs h3]
          refine ⟨⟨hI.q, hI.cl, fun b hb => ?_, hI.up⟩, hi⟩
          by_cases e : b = a
          · subst e
            intro _
            exact ⟨hs, _, h3, rR h3, hI.up _ h3 hi⟩
          · exact hI.pc b (by omega)
        · by_cases h4 : 4096 ≤ Q.length
          · rw [vV hu hs h3 h4]; exact ⟨hI.q, h4⟩
          · rw [wN hu hs h3 h4]
            obtain ⟨p1, p2, p3⟩ := hI.q.pt i hi
            have hwl : (dS Q i a).length = (Q.getD i ss0).2.length + 1 := by unfold dS; simp
            refine ⟨⟨⟨⟨by rw [jl]; omega, by rw [fY hI.q.rt.1]; exact hI.q.rt.2⟩, fun k hk => ?_, fun j k hjk hk => ?_, fun j k hjk hk => ?_, by rw [jl]; omega⟩, fun j hj b hb => qu (by omega) (hI.cl j hj b hb), fun b hb => ?_, fun k hk _ => ?_⟩, by rw [jl]; omega⟩
            · rw [jl] at hk
              by_cases e : k < Q.length
              · rw [fY e]; exact hI.q.pt k e
              · have : k = Q.length := by omega
                subst this
                rw [lj]
                refine ⟨gZ.2 ⟨p1, ?_⟩, ?_, ?_⟩
                · rw [← p2]; exact ⟨⟨hu, hs⟩, trivial⟩
                · show fg m Q i a = dr m l (dS Q i a)
                  unfold fg dS
                  rw [gu, rz, ← p2]
                · intro x hx
                  rcases List.mem_append.1 hx with h | h
                  · exact p3 x h
                  · rw [List.mem_singleton] at h; rw [h]; omega
            · rw [jl] at hk
              by_cases e : k < Q.length
              · rw [fY e, fY (by omega)]; exact hI.q.mo j k hjk e
              · have : k = Q.length := by omega
                subst this
                rw [lj]
                by_cases e2 : j < Q.length
                · rw [fY e2]
                  show _ ≤ (dS Q i a).length
                  rw [hwl]; exact hI.up j e2 hi
                · rw [show j = Q.length by omega, lj]; exact Nat.le_refl _
            · rw [jl] at hk
              by_cases e : k < Q.length
              · rw [fY e, fY (by omega)]; exact hI.q.nd j k hjk e
              · have : k = Q.length := by omega
                subst this
                rw [lj, fY hjk]
                exact zx h3 j hjk
            · by_cases e : b = a
              · subst e
                unfold clQ
                rw [fY hi]
                intro _
                refine ⟨hs, Q.length, by rw [jl]; omega, by rw [lj]; rfl, ?_⟩
                rw [lj]
                show (dS Q i b).length ≤ _
                omega
              · exact qu hi (hI.pc b (by omega))
            · rw [jl] at hk
              rw [fY hi]
              by_cases e : k < Q.length
              · rw [fY e]; exact hI.up k e hi
              · rw [show k = Q.length by omega, lj]
                show (dS Q i a).length ≤ _
                omega
theorem tH {m : Mly} {l : List Int} {i : Nat} {t : F12} (h : BFT m l i 0 t) : ∀ k, k ≤ m.inp.toNat → BFT m l i k ((List.range k).foldl (d8 m i) t)
  | 0, _ => h
  | k + 1, hk => by
    rw [List.range_succ, List.foldl_append]
    exact AH (tH h k (by omega)) (by omega)
def BFE (m : Mly) (l : List Int) (r : Option (Option (List Int))) : Prop := match r with
  | none => ∀ v, dA m v → ¬ spW m l v
  | some (some w) => spW m l w ∧ ∀ v, dA m v → spW m l v → w.length ≤ v.length
  | some none => ∃ Q, BFQ m l Q ∧ 4096 ≤ Q.length
theorem w9 {m : Mly} {l : List Int} {i a : Nat} {Q : List SS} (h : BFI m l i a Q) (hi : ¬ i < Q.length) : ∀ v, dA m v → ¬ spW m l v := by
  rintro v hv ⟨u, b, rfl, s1, s2, s3⟩
  have hb := hv b (by simp)
  have hc : ∀ j, j < Q.length → (Q.getD j ss0).2.length < u.length + 1 → ∀ b : Nat, b < m.inp.toNat → clQ m Q j b := fun j hj _ b hb => h.cl j (by omega) b hb
  obtain ⟨j, j1, j2, j3⟩ := sZ h.q hc u.length u rfl (by omega) (fun x hx => hv x (List.mem_append_left _ hx)) s1
  have hcl := hc j j1 (by omega) b.toNat (by omega)
  rw [show ((b.toNat : Nat) : Int) = b by omega] at hcl
  unfold clQ at hcl
  rw [j2] at hcl
  have := (hcl s2).1
  rw [s3] at this; cases this
theorem z6 {m : Mly} {l : List Int} {i : Nat} {Q : List SS} (h : BFI m l i m.inp.toNat Q) (hi : i < Q.length) : BFI m l (i + 1) 0 Q := by
  refine ⟨h.q, fun j hj b hb => ?_, fun b hb => by omega, fun k hk hi2 => ?_⟩
  · by_cases e : j = i
    · rw [e]; exact h.pc b hb
    · exact h.cl j (by omega) b hb
  · have h1 := h.up k hk hi
    have h2 := h.q.mo i (i + 1) (by omega) hi2
    omega
theorem ye {m : Mly} {l : List Int} : ∀ (f i : Nat) (Q : List SS), 4097 ≤ f + i → BFI m l i 0 Q → BFE m l (fV m f i ⟨Q, none⟩).res
  | 0, i, Q, hf, h => by
    have := h.q.le
    exact w9 h (by omega)
  | f + 1, i, Q, hf, h => by
    by_cases hi : i < Q.length
    · rw [pl rfl hi]
      have h1 := tH (t := ⟨Q, none⟩) (i := i) ⟨h, hi⟩ m.inp.toNat (Nat.le_refl _)
      have e : (List.range m.inp.toNat).foldl (d8 m i) ⟨Q, none⟩ = j6 m i ⟨Q, none⟩ := rfl
      rw [e] at h1
      rcases hr : j6 m i ⟨Q, none⟩ with ⟨Q2, r⟩
      rw [hr] at h1
      cases r with
      | none =>
        obtain ⟨h2, h3⟩ : BFI m l i m.inp.toNat Q2 ∧ i < Q2.length := h1
        exact ye f (i + 1) Q2 (by omega) (z6 h2 h3)
      | some r =>
        rw [qX (t := ⟨Q2, some r⟩) rfl]
        cases r with
        | some w => exact h1
        | none => exact ⟨Q2, h1⟩
    · rw [ue hi]; exact w9 h hi
theorem zn (m : Mly) (l : List Int) : BFE m l (lN m l) := by
  refine ye 4097 0 [(l, [])] (by omega) ⟨⟨⟨by simp, rfl⟩, fun k hk => ?_, fun j k hjk hk => ?_, fun j k hjk hk => ?_, by simp⟩, fun j hj => by omega, fun b hb => by omega, fun k hk hi => ?_⟩
  · have : k = 0 := by simpa using hk
    subst this; exact ⟨trivial, rfl, fun x hx => by cases hx⟩
  · have : k = 0 := by simpa using hk
    have : j = 0 := by omega
    subst_vars; exact Nat.le_refl _
  · have : k = 0 := by simpa using hk
    omega
  · have : k = 0 := by simpa using hk
    subst this; omega
theorem Ax {m : Mly} {l w : List Int} (h : fdW m l = some w) : spW m l w ∧ ∀ v, dA m v → spW m l v → w.length ≤ v.length := by
  have hs := zn m l
  unfold fdW at h
  rcases hr : lN m l with _ | _ | w2
  · rw [hr] at h; cases h
  · rw [hr] at h; cases h
  · rw [hr] at h hs
    have : w2 = w := by simpa using h
    subst this; exact hs
/-plain-/
def ni (l k : List Int) : Prop := ∀ x, x ∈ l ↔ x ∈ k
theorem oU {m : Mly} {l : List Int} {a : Int} (hn : l.Nodup) : unS m l a l.length = true ↔ ∃ s t, s ∈ l ∧ t ∈ l ∧ s ≠ t ∧ clB m a s t = true := by
  unfold unS
  constructor
  · intro h
    obtain ⟨k, hk, h2⟩ := List.any_eq_true.1 h
    obtain ⟨j, hj, h3⟩ := List.any_eq_true.1 h2
    have hk := List.mem_range.1 hk
    have hj := List.mem_range.1 hj
    refine ⟨_, _, bl hk, bl (show j < l.length by omega), fun e => ?_, h3⟩
    have := iu hn hk (by omega) e
    omega
  · rintro ⟨s, t, hs, ht, hne, hc⟩
    obtain ⟨i, hi, rfl⟩ := fR hs
    obtain ⟨j, hj, rfl⟩ := fR ht
    rcases Nat.lt_trichotomy i j with h | h | h
    · refine List.any_eq_true.2 ⟨j, List.mem_range.2 hj, List.any_eq_true.2 ⟨i, List.mem_range.2 h, ?_⟩⟩
      unfold clB at hc ⊢
      simp only [Bool.and_eq_true, decide_eq_true_eq] at hc ⊢
      exact ⟨hc.1.symm, hc.2.symm⟩
    · subst h; exact absurd rfl hne
    · exact List.any_eq_true.2 ⟨i, List.mem_range.2 hi, List.any_eq_true.2 ⟨j, List.mem_range.2 h, hc⟩⟩
theorem uu {m : Mly} {l : List Int} {a : Int} (hn : l.Nodup) (h : unS m l a l.length = false) {s t : Int} (hs : s ∈ l) (ht : t ∈ l) (h1 : m.out s a = m.out t a) (h2 : m.nxt s a = m.nxt t a) : s = t := by
  by_cases e : s = t
  · exact e
  · have := (oU (m := m) (a := a) hn).2 ⟨s, t, hs, ht, e, by unfold clB; rw [decide_eq_true h1, decide_eq_true h2]; rfl⟩
    rw [h] at this; cases this
theorem iU {m : Mly} {l : List Int} {a : Int} : smO m l a l.length = true ↔ ∀ s t, s ∈ l → t ∈ l → m.out s a = m.out t a := by
  unfold smO
  rw [List.all_eq_true]
  constructor
  · intro h s t hs ht
    obtain ⟨i, hi, rfl⟩ := fR hs
    obtain ⟨j, hj, rfl⟩ := fR ht
    have h1 := h i (List.mem_range.2 hi)
    have h2 := h j (List.mem_range.2 hj)
    simp only [decide_eq_true_eq] at h1 h2
    rw [h1, h2]
  · intro h k hk
    have hk := List.mem_range.1 hk
    rw [decide_eq_true_eq]
    exact h _ _ (bl hk) (bl (by omega))
theorem vU {m : Mly} {l k : List Int} {a : Int} (h : ni l k) (hl : l.Nodup) (hk : k.Nodup) : unS m l a l.length = unS m k a k.length := by
  rw [Bool.eq_iff_iff, oU hl, oU hk]
  constructor
  · rintro ⟨s, t, h1, h2, h3⟩; exact ⟨s, t, (h s).1 h1, (h t).1 h2, h3⟩
  · rintro ⟨s, t, h1, h2, h3⟩; exact ⟨s, t, (h s).2 h1, (h t).2 h2, h3⟩
theorem wn {m : Mly} {l k : List Int} {a : Int} (h : ni l k) : smO m l a l.length = smO m k a k.length := by
  rw [Bool.eq_iff_iff, iU, iU]
  constructor
  · intro g s t h1 h2; exact g s t ((h s).2 h1) ((h t).2 h2)
  · intro g s t h1 h2; exact g s t ((h s).1 h1) ((h t).1 h2)
theorem B0 {m : Mly} {l k : List Int} {a : Int} (h : ni l k) : ni (cu m l a) (cu m k a) := by
  intro x
  unfold cu
  rw [List.mem_map, List.mem_map]
  constructor
  · rintro ⟨y, h1, h2⟩; exact ⟨y, (h y).1 h1, h2⟩
  · rintro ⟨y, h1, h2⟩; exact ⟨y, (h y).2 h1, h2⟩
theorem mF {m : Mly} {l : List Int} {a : Int} (hn : l.Nodup) (h : unS m l a l.length = false) (h2 : smO m l a l.length = true) : (cu m l a).Nodup := by
  unfold cu
  refine List.pairwise_map.2 (List.Pairwise.imp_of_mem (fun {s t} hs ht hne e => hne ?_) hn)
  exact uu hn h hs ht (iU.1 h2 s t hs ht) e
theorem gh {m : Mly} : ∀ {v l : List Int}, l.Nodup → chW m l v → (dr m l v).Nodup
  | [], _, h, _ => h
  | a :: v, l, h, hc => gh (v := v) (mF h hc.1.1 hc.1.2) hc.2
theorem o7 {m : Mly} (hm : MOK m) : ∀ {v l : List Int}, dA m v → cK m l → cK m (dr m l v)
  | [], _, _, h => h
  | a :: v, l, hw, h => o7 hm (v := v) (fun x hx => hw x (aJ _ hx)) (sX hm (hw a (aQ ..)) h).1
theorem uX {m : Mly} : ∀ {w l k : List Int}, ni l k → l.Nodup → k.Nodup → spW m l w → spW m k w
  | [], _, _, _, _, _, h => absurd rfl (sN h)
  | a :: w, l, k, h, hl, hk, hs => by
    rw [mM] at hs ⊢
    rw [← vU h hl hk, ← wn h]
    obtain ⟨h1, h2 | ⟨h2, h3⟩⟩ := hs
    · exact ⟨h1, .inl h2⟩
    · exact ⟨h1, .inr ⟨h2, uX (B0 h) (mF hl h1 h2) (mF hk (by rw [← vU h hl hk]; exact h1) (by rw [← wn h]; exact h2)) h3⟩⟩
theorem pG {m : Mly} : ∀ {v w l : List Int}, chW m l v → spW m (dr m l v) w → spW m l (v ++ w)
  | [], _, _, _, h => h
  | a :: v, w, l, hc, h => by
    rw [aM, mM]
    exact ⟨hc.1.1, .inr ⟨hc.1.2, pG hc.2 h⟩⟩
def cdN (l : List Int) : Nat → Nat
  | 0 => 0
  | k + 1 => 2 * cdN l k + (if (k : Int) ∈ l then 1 else 0)
theorem sV (l : List Int) : ∀ k, cdN l k < 2 ^ k
  | 0 => by show 0 < 2 ^ 0; decide
  | k + 1 => by
    have := sV l k
    rw [cdN, Nat.pow_succ]
    split <;> omega
theorem oZ {l k : List Int} : ∀ n, cdN l n = cdN k n → ∀ i : Nat, i < n → ((i : Int) ∈ l ↔ (i : Int) ∈ k)
  | 0, _, i, h => by omega
  | n + 1, h, i, hi => by
    rw [cdN, cdN] at h
    have h1 : cdN l n = cdN k n := by split at h <;> split at h <;> omega
    by_cases e : i = n
    · subst e
      rw [h1] at h
      by_cases a1 : (i : Int) ∈ l
      · by_cases a2 : (i : Int) ∈ k
        · exact ⟨fun _ => a2, fun _ => a1⟩
        · rw [if_pos a1, if_neg a2] at h; omega
      · by_cases a2 : (i : Int) ∈ k
        · rw [if_neg a1, if_pos a2] at h; omega
        · exact ⟨fun h => absurd h a1, fun h => absurd h a2⟩
    · exact oZ n h1 i (by omega)
theorem vT {n : Nat} {l k : List Int} (hl : ∀ x ∈ l, 0 ≤ x ∧ x < n) (hk : ∀ x ∈ k, 0 ≤ x ∧ x < n) (h : cdN l n = cdN k n) : ni l k := by
  intro x
  constructor
  · intro hx
    have := hl x hx
    have h2 := (oZ n h x.toNat (by omega)).1
    rw [show ((x.toNat : Nat) : Int) = x by omega] at h2
    exact h2 hx
  · intro hx
    have := hk x hx
    have h2 := (oZ n h x.toNat (by omega)).2
    rw [show ((x.toNat : Nat) : Int) = x by omega] at h2
    exact h2 hx
theorem xd {m : Mly} (hm : MOK m) (hn8 : m.nx.length ≤ 8) {l w : List Int} (hn : l.Nodup) (hst : cK m l) (hw : dA m w) (h : spW m l w) (hmin : ∀ v, dA m v → spW m l v → w.length ≤ v.length) : w.length ≤ 256 := by
  obtain ⟨v, a, rfl, h1, h2, h3⟩ := h
  have hwv : dA m v := fun x hx => hw x (List.mem_append_left _ hx)
  have hsp : ∀ p, spW m (dr m l (v.take p)) (v.drop p ++ [a]) := fun p => by
    have h1' := h1
    rw [← List.take_append_drop p v] at h1'
    have hc := (gZ.1 h1').2
    refine ⟨_, _, rfl, hc, ?_, ?_⟩
    · rw [← gu, List.take_append_drop]; exact h2
    · rw [← gu, List.take_append_drop]; exact h3
  have hch : ∀ p, chW m l (v.take p) := fun p => by
    have h1' := h1
    rw [← List.take_append_drop p v] at h1'
    exact (gZ.1 h1').1
  have hnd : ((List.range (v.length + 1)).map fun p => (cdN (dr m l (v.take p)) 8 : Int)).Nodup := by
    refine List.pairwise_map.2 (List.Pairwise.imp_of_mem (fun {p q} hp hq hlt e => ?_) (List.pairwise_lt_range (n := v.length + 1)))
    have hp := List.mem_range.1 hp
    have hq := List.mem_range.1 hq
    have st : ∀ p, cK m (dr m l (v.take p)) := fun p => o7 hm (fun x hx => hwv x (List.mem_of_mem_take hx)) hst
    have hse : ni (dr m l (v.take q)) (dr m l (v.take p)) := vT (n := 8) (fun x hx => by have := st q x hx; omega) (fun x hx => by have := st p x hx; omega) (by omega)
    have hs := uX hse (gh hn (hch q)) (gh hn (hch p)) (hsp q)
    have hs2 := pG (hch p) hs
    have := hmin _ (fun x hx => by
      rcases List.mem_append.1 hx with hx | hx
      · exact hwv x (List.mem_of_mem_take hx)
      · rcases List.mem_append.1 hx with hx | hx
        · exact hwv x (List.mem_of_mem_drop hx)
        · exact hw x (by simp at hx; simp [hx])) hs2
    simp only [aq, List.length_take, List.length_drop, au, aG] at this
    omega
  have := eQ 256 _ hnd (fun x hx => by
    obtain ⟨p, _, rfl⟩ := List.mem_map.1 hx
    have := sV (dr m l (v.take p)) 8
    omega)
  rw [aD, List.length_range] at this
  rw [aq]
  simp only [au, aG]
  omega
end Go.AV
