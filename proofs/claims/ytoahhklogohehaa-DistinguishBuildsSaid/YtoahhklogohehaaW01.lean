/- Contracts of functions of this seat, each out of a walk through its code, and plain facts on what they compute. Conditions: those that each theorem names. -/
import Derived.Test.YtoahhklogohehaaW00
set_option linter.unusedSimpArgs false
set_option linter.unusedVariables false
set_option maxRecDepth 100000
namespace Go.AV
open Nat renaming reduceEqDiff → aa, reduceAdd → V, reduceLeDiff → ad, reduceLT → ag, reduceMul → af, reduceSub → ae
open List renaming set_cons_zero → cT, set_cons_succ → cC, getD_cons_zero → ar, length_append → aq, map_cons → aJ, cons_append → aH, map_nil → bg, length_cons → au, nil_append → aZ, take_succ_cons → dQ, length_nil → aC, length_map → aD, length_replicate → bp, take_length → aE, mem_cons_self → aO, mem_cons_of_mem → aL
open Int renaming toNat_natCast → ah
/-plain-/
theorem nF {xs : List Int} : (aA xs).length = xs.length ↔ xs.Nodup := by
  have hu := du xs
  have hun : (aA xs).Nodup := hu.1.imp fun h e => by omega
  constructor
  · intro he
    by_cases hn : xs.Nodup
    · exact hn
    · exfalso
      have key : ∀ ys : List Int, ¬ ys.Nodup → ∃ zs : List Int, zs.length + 1 = ys.length ∧ ∀ x, x ∈ ys → x ∈ zs := by
        intro ys
        induction ys with
        | nil => intro h; exact absurd List.nodup_nil h
        | cons y ys ih =>
          intro h
          by_cases hy : y ∈ ys
          · exact ⟨ys, rfl, fun x hx => by rcases List.mem_cons.1 hx with rfl | hx <;> assumption⟩
          · have hny : ¬ ys.Nodup := fun h2 => h (List.nodup_cons.2 ⟨hy, h2⟩)
            obtain ⟨zs, h1, h2⟩ := ih hny
            exact ⟨y :: zs, by simp only [au]; omega, fun x hx => by
              rcases List.mem_cons.1 hx with rfl | hx
              · exact aO ..
              · exact aL _ (h2 x hx)⟩
      obtain ⟨zs, h1, h2⟩ := key xs hn
      have := eF (aA xs) zs hun fun x hx => h2 x ((hu.2 x).1 hx)
      omega
  · intro hn
    have h1 := eF xs (aA xs) hn fun x hx => (hu.2 x).2 hx
    have h2 := eX xs
    omega
def nd0 : aX := ([], (0, ([], ())))
def kd0 : dD := (0, (0, ()))
def fE (m : Mly) (rec : Nat → List Int → List Int → Option Nat) (ini cur : List Int) (x : aX) (e : Option Nat) (i : Nat) : Option Nat :=
  match e with
  | none => none
  | some n => if (x.2.2.1.getD i kd0).1 = (aA (ouL m cur x.2.1)).getD i 0 ∧ (x.2.2.1.getD i kd0).2.1 = (n : Int) then
      rec n (bU m ini cur x.2.1 cur.length ((aA (ouL m cur x.2.1)).getD i 0)) (bE m cur x.2.1 cur.length ((aA (ouL m cur x.2.1)).getD i 0)) else none
def rtF (m : Mly) (T : List aX) : Nat → Nat → List Int → List Int → Option Nat
  | 0, _, _, _ => none
  | f + 1, p, ini, cur =>
    if p < T.length ∧ (T.getD p nd0).1 = ini ∧ cur.Nodup then
      (if (T.getD p nd0).2.1 = -1 then (if (T.getD p nd0).2.2.1.length = 0 then some (p + 1) else none) else
       if 0 ≤ (T.getD p nd0).2.1 ∧ (T.getD p nd0).2.1 < m.inp ∧ (aA (ouL m cur (T.getD p nd0).2.1)).length = (T.getD p nd0).2.2.1.length then
         (List.range (T.getD p nd0).2.2.1.length).foldl (fE m (rtF m T f) ini cur (T.getD p nd0)) (some (p + 1)) else none)
    else none
theorem jD {m : Mly} {rec : Nat → List Int → List Int → Option Nat} {ini cur : List Int} {x : aX} : ∀ is : List Nat, is.foldl (fE m rec ini cur x) none = none
  | [] => rfl
  | i :: is => jD is
theorem kt {m : Mly} {T : List aX} : ∀ {f p : Nat} {ini cur : List Int} {n : Nat}, rtF m T f p ini cur = some n → p < n ∧ n ≤ T.length
  | 0, _, _, _, _, h => by cases h
  | f + 1, p, ini, cur, n, h => by
    rw [rtF] at h
    split at h
    · rename_i h1
      split at h
      · split at h
        · simp only [Option.some.injEq] at h; omega
        · cases h
      · split at h
        · have key : ∀ (is : List Nat) (e : Nat), p < e ∧ e ≤ T.length → is.foldl (fE m (rtF m T f) ini cur (T.getD p nd0)) (some e) = some n → p < n ∧ n ≤ T.length := by
            intro is
            induction is with
            | nil => intro e he h2; simp only [List.foldl_nil, Option.some.injEq] at h2; omega
            | cons i is ih =>
              intro e he h2
              rw [List.foldl_cons] at h2
              unfold fE at h2
              simp only at h2
              split at h2
              · cases hr : rtF m T f e (bU m ini cur (T.getD p nd0).2.1 cur.length ((aA (ouL m cur (T.getD p nd0).2.1)).getD i 0)) (bE m cur (T.getD p nd0).2.1 cur.length ((aA (ouL m cur (T.getD p nd0).2.1)).getD i 0)) with
                | none =>
                  rw [hr] at h2
                  have := jD (m := m) (rec := rtF m T f) (ini := ini) (cur := cur) (x := T.getD p nd0) is
                  unfold fE at this
                  rw [this] at h2; cases h2
                | some e2 =>
                  rw [hr] at h2
                  have := kt hr
                  exact ih e2 ⟨by omega, by omega⟩ (by unfold fE; exact h2)
              · have := jD (m := m) (rec := rtF m T f) (ini := ini) (cur := cur) (x := T.getD p nd0) is
                unfold fE at this
                rw [this] at h2; cases h2
          exact key _ _ ⟨by omega, by omega⟩ h
        · cases h
    · cases h
theorem oB {m : Mly} {T : List aX} {f p : Nat} {ini cur : List Int} (h : ¬ (p < T.length ∧ (T.getD p nd0).1 = ini ∧ cur.Nodup)) : rtF m T (f + 1) p ini cur = none := by
  rw [rtF, if_neg h]
theorem dF {m : Mly} {T : List aX} {f p : Nat} {ini cur : List Int} (h : p < T.length ∧ (T.getD p nd0).1 = ini ∧ cur.Nodup) (h2 : (T.getD p nd0).2.1 = -1) : rtF m T (f + 1) p ini cur = if (T.getD p nd0).2.2.1.length = 0 then some (p + 1) else none := by
  rw [rtF, if_pos h, if_pos h2]
theorem pZ {m : Mly} {T : List aX} {f p : Nat} {ini cur : List Int} (h2 : ¬ (T.getD p nd0).2.1 = -1) (h3 : ¬ (0 ≤ (T.getD p nd0).2.1 ∧ (T.getD p nd0).2.1 < m.inp ∧ (aA (ouL m cur (T.getD p nd0).2.1)).length = (T.getD p nd0).2.2.1.length)) : rtF m T (f + 1) p ini cur = none := by
  by_cases h : p < T.length ∧ (T.getD p nd0).1 = ini ∧ cur.Nodup
  · rw [rtF, if_pos h, if_neg h2, if_neg h3]
  · exact oB h
theorem mU {m : Mly} {T : List aX} {f p : Nat} {ini cur : List Int} (h : p < T.length ∧ (T.getD p nd0).1 = ini ∧ cur.Nodup) (h2 : ¬ (T.getD p nd0).2.1 = -1) (h3 : 0 ≤ (T.getD p nd0).2.1 ∧ (T.getD p nd0).2.1 < m.inp ∧ (aA (ouL m cur (T.getD p nd0).2.1)).length = (T.getD p nd0).2.2.1.length) :
    rtF m T (f + 1) p ini cur = (List.range (T.getD p nd0).2.2.1.length).foldl (fE m (rtF m T f) ini cur (T.getD p nd0)) (some (p + 1)) := by
  rw [rtF, if_pos h, if_neg h2, if_pos h3]
theorem r8 {m : Mly} {rec : Nat → List Int → List Int → Option Nat} {ini cur : List Int} {x : aX} {i n e : Nat} {s : Option Nat} (hi : i < n) (h : (List.range i).foldl (fE m rec ini cur x) s = some e) (h2 : fE m rec ini cur x (some e) i = none) : (List.range n).foldl (fE m rec ini cur x) s = none := by
  have e9 : List.range n = List.range (i + 1) ++ (List.range (n - (i + 1))).map ((i + 1) + ·) := by rw [← List.range_add]; congr 1; omega
  rw [e9, List.foldl_append, List.range_succ, List.foldl_append, h, List.foldl_cons, List.foldl_nil, h2]
  exact jD _
theorem pU {m : Mly} {rec : Nat → List Int → List Int → Option Nat} {ini cur : List Int} {x : aX} {i e : Nat} {s r : Option Nat} (h : (List.range i).foldl (fE m rec ini cur x) s = some e) (h2 : fE m rec ini cur x (some e) i = r) : (List.range (i + 1)).foldl (fE m rec ini cur x) s = r := by
  rw [List.range_succ, List.foldl_append, h, List.foldl_cons, List.foldl_nil, h2]
theorem ni {m : Mly} {rec : Nat → List Int → List Int → Option Nat} {ini cur : List Int} {x : aX} {e i : Nat} (h : (x.2.2.1.getD i kd0).1 = (aA (ouL m cur x.2.1)).getD i 0 ∧ (x.2.2.1.getD i kd0).2.1 = (e : Int)) :
    fE m rec ini cur x (some e) i = rec e (bU m ini cur x.2.1 cur.length ((aA (ouL m cur x.2.1)).getD i 0)) (bE m cur x.2.1 cur.length ((aA (ouL m cur x.2.1)).getD i 0)) := if_pos h
theorem vp {m : Mly} {rec : Nat → List Int → List Int → Option Nat} {ini cur : List Int} {x : aX} {e i : Nat} (h : ¬ ((x.2.2.1.getD i kd0).1 = (aA (ouL m cur x.2.1)).getD i 0 ∧ (x.2.2.1.getD i kd0).2.1 = (e : Int))) : fE m rec ini cur x (some e) i = none := if_neg h
/-plain-/
theorem aP : (([], (0, ([], ()))) : aX) = nd0 := rfl
theorem aM : ((0, (0, ())) : dD) = kd0 := rfl
def rtP (m : Mly) (T : List aX) (f p : Nat) (ini cur : List Int) : Int :=
  match rtF m T f p ini cur with
  | some n => (n : Int)
  | none => if (p < T.length ∧ (T.getD p nd0).1 = ini ∧ cur.Nodup) ∧ (T.getD p nd0).2.1 = -1 then (p : Int) + 1 else 0
theorem dx {m : Mly} {T : List aX} {f p n : Nat} {ini cur : List Int} (h : rtF m T f p ini cur = some n) : rtP m T f p ini cur = (n : Int) := by unfold rtP; rw [h]
theorem jk {m : Mly} {T : List aX} {f p : Nat} {ini cur : List Int} (h : rtF m T f p ini cur = none) (h2 : ¬ ((p < T.length ∧ (T.getD p nd0).1 = ini ∧ cur.Nodup) ∧ (T.getD p nd0).2.1 = -1)) : rtP m T f p ini cur = 0 := by unfold rtP; rw [h]; exact if_neg h2
theorem gK {m : Mly} {T : List aX} {f p : Nat} {ini cur : List Int} (h : rtF m T f p ini cur = none) (h2 : (p < T.length ∧ (T.getD p nd0).1 = ini ∧ cur.Nodup) ∧ (T.getD p nd0).2.1 = -1) : rtP m T f p ini cur = (p : Int) + 1 := by unfold rtP; rw [h]; exact if_pos h2
structure TR12 (T : List aX) : Prop where
  len : T.length ≤ 4096
/-plain-/
def fg (T : List aX) (rec : Nat → Int) (p : Nat) (n : Int) (k : dD) : Int := if (p : Int) < k.2.1 ∧ k.2.1 < T.length then max n (1 + rec k.2.1.toNat) else n
def dpF (T : List aX) : Nat → Nat → Int
  | 0, _ => 0
  | f + 1, p => (T.getD p nd0).2.2.1.foldl (fg T (dpF T f) p) 0
theorem lx {T : List aX} {r1 r2 : Nat → Int} {p : Nat} (h : ∀ k, p < k → k < T.length → r1 k = r2 k) : ∀ (K : List dD) (n : Int), K.foldl (fg T r1 p) n = K.foldl (fg T r2 p) n
  | [], _ => rfl
  | k :: K, n => by
    have e : fg T r1 p n k = fg T r2 p n k := by
      unfold fg
      by_cases hk : (p : Int) < k.2.1 ∧ k.2.1 < T.length
      · rw [if_pos hk, if_pos hk, h _ (by omega) (by omega)]
      · rw [if_neg hk, if_neg hk]
    rw [List.foldl_cons, List.foldl_cons, e, lx h K]
theorem rE {T : List aX} : ∀ (f g p : Nat), p < T.length → T.length ≤ f + p → T.length ≤ g + p → dpF T f p = dpF T g p
  | 0, _, p, h, h1, _ => by omega
  | f + 1, 0, p, h, _, h2 => by omega
  | f + 1, g + 1, p, h, h1, h2 => lx (fun k hk hl => rE f g k hl (by omega) (by omega)) _ _
theorem nn {T : List aX} {r : Nat → Int} {p : Nat} (hp : p < T.length) (h : ∀ k, p < k → k < T.length → 0 ≤ r k ∧ r k + k < T.length) : ∀ (K : List dD) (n : Int), 0 ≤ n ∧ n + p < T.length → 0 ≤ K.foldl (fg T r p) n ∧ K.foldl (fg T r p) n + p < T.length
  | [], _, hn => hn
  | k :: K, n, hn => by
    rw [List.foldl_cons]
    refine nn hp h K _ ?_
    unfold fg
    split
    · rename_i hk
      have := h k.2.1.toNat (by omega) (by omega)
      omega
    · exact hn
theorem uo {T : List aX} : ∀ (f p : Nat), p < T.length → T.length ≤ f + p → 0 ≤ dpF T f p ∧ dpF T f p + p < T.length
  | 0, p, h, h1 => by omega
  | f + 1, p, h, h1 => nn h (fun k hk hl => uo f k hl (by omega)) _ _ ⟨Int.le_refl _, by omega⟩
def dpA (T : List aX) (p : Nat) : Int := dpF T (T.length - p) p
theorem B5 {T : List aX} {p : Nat} (h : p < T.length) : dpA T p = (T.getD p nd0).2.2.1.foldl (fg T (dpA T) p) 0 := by
  show dpF T (T.length - p) p = _
  rw [show T.length - p = (T.length - p - 1) + 1 by omega]
  exact lx (fun k hk hl => rE _ _ k hl (by omega) (by omega)) _ _
theorem vC {T : List aX} {p : Nat} (h : p < T.length) : 0 ≤ dpA T p ∧ dpA T p + p < T.length := uo _ _ h (by omega)
theorem yI {K : List dD} {i : Nat} (h : i < K.length) : K.take (i + 1) = K.take i ++ [K.getD i kd0] := by
  rw [List.take_add_one]; simp [List.getD, h]
theorem za {T : List aX} {r : Nat → Int} {p i : Nat} {K : List dD} (h : i < K.length) : (K.take (i + 1)).foldl (fg T r p) 0 = fg T r p ((K.take i).foldl (fg T r p) 0) (K.getD i kd0) := by
  rw [yI h, List.foldl_append]; rfl
def dpT (T : List aX) : Int := if T.length = 0 then 0 else dpA T 0
def dpV (T : List aX) (p : Nat) (x : Int) (q : Nat) : Int := if q < p then 0 else if q = p then x else if q < T.length then dpA T q else 0
def dpL (T : List aX) (p : Nat) (x : Int) : List Int := (List.range (T.length + 1)).map (dpV T p x)
theorem dE (T : List aX) (p : Nat) (x : Int) : (dpL T p x).length = T.length + 1 := by simp [dpL]
theorem nC (T : List aX) (p : Nat) (x : Int) (i : Nat) : (dpL T p x)[i]? = if i < T.length + 1 then some (dpV T p x i) else none := by
  unfold dpL
  rw [List.getElem?_map]
  by_cases h : i < T.length + 1
  · rw [if_pos h, List.getElem?_range h]; rfl
  · rw [if_neg h, List.getElem?_eq_none (by simpa using h)]; rfl
theorem yX {T : List aX} {p i : Nat} (h : i ≤ T.length) (x : Int) : (dpL T p x).getD i 0 = dpV T p x i := by
  rw [List.getD, nC, if_pos (by omega)]; rfl
theorem qh {T : List aX} {p : Nat} (h : p ≤ T.length) (x : Int) : (dpL T p x).getD p 0 = x := by
  rw [yX h]; unfold dpV; rw [if_neg (by omega), if_pos rfl]
theorem AF {T : List aX} {p k : Nat} (h : p < k) (hk : k < T.length) (x : Int) : (dpL T p x).getD k 0 = dpA T k := by
  rw [yX (by omega)]; unfold dpV; rw [if_neg (by omega), if_neg (by omega), if_pos hk]
theorem zl {T : List aX} {p : Nat} (h : p ≤ T.length) (x y : Int) : (dpL T p x).set p y = dpL T p y := by
  apply List.ext_getElem?
  intro i
  rw [List.getElem?_set, nC, nC, dE]
  by_cases e : p = i
  · subst e
    rw [if_pos rfl, if_pos (by omega), if_pos (by omega)]
    unfold dpV; rw [if_neg (by omega), if_pos rfl]
  · rw [if_neg e]
    have : dpV T p x i = dpV T p y i := by
      unfold dpV
      by_cases e2 : i < p
      · rw [if_pos e2, if_pos e2]
      · rw [if_neg e2, if_neg e2, if_neg (fun h : i = p => e h.symm), if_neg (fun h : i = p => e h.symm)]
    rw [this]
theorem yh {T : List aX} {p : Nat} (h : p + 1 ≤ T.length) : dpL T (p + 1) (if p + 1 = T.length then 0 else dpA T (p + 1)) = dpL T p 0 := by
  apply List.ext_getElem?
  intro i
  rw [nC, nC]
  have : dpV T (p + 1) (if p + 1 = T.length then 0 else dpA T (p + 1)) i = dpV T p 0 i := by
    unfold dpV
    by_cases e : i < p
    · rw [if_pos (show i < p + 1 by omega), if_pos e]
    · by_cases e2 : i = p
      · subst e2; rw [if_pos (show i < i + 1 by omega), if_neg e, if_pos rfl]
      · by_cases e3 : i = p + 1
        · subst e3
          rw [if_neg (show ¬ p + 1 < p + 1 by omega), if_pos rfl, if_neg e, if_neg e2]
          by_cases e4 : p + 1 = T.length
          · rw [if_pos e4, if_neg (by omega)]
          · rw [if_neg e4, if_pos (by omega)]
        · rw [if_neg (show ¬ i < p + 1 by omega), if_neg e3, if_neg e, if_neg e2]
  rw [this]
theorem z1 (T : List aX) : dpL T T.length 0 = List.replicate (T.length + 1) 0 := by
  apply List.ext_getElem?
  intro i
  rw [nC, List.getElem?_replicate]
  by_cases h : i < T.length + 1
  · rw [if_pos h, if_pos h]
    unfold dpV
    by_cases e : i < T.length
    · rw [if_pos e]
    · rw [if_neg e, if_pos (by omega)]
  · rw [if_neg h, if_neg h]
/-plain-/
/-plain-/
def BS (m : Mly) (cl : List Int) : Bool := if Bd m cl = 0 then (BQ m cl).isSome else false
/-plain-/
def SYM (n : Int) (w : List Int) : Prop := ∀ a, a ∈ w → 0 ≤ a ∧ a < n
structure SHW (m : Mly) (cl : List Int) (u v : List Int) : Prop where
  su : SYM m.inp u
  sv : SYM m.inp v
  lu : u.length ≤ 200
  lv : v.length = u.length
  pos : 0 < u.length
  ne : (m.go m.st u).2 ≠ (m.go m.st v).2
  im : u.map (fun a => cl.getD a.toNat 0) = v.map fun a => cl.getD a.toNat 0
theorem xf {n i : Nat} : (List.replicate n (0 : Int)).getD i 0 = 0 := by
  by_cases h : i < n
  · simp [List.getD, h]
  · simp [List.getD, Nat.le_of_not_lt h]
/-plain-/
def lE (m : Mly) : List Int := if aR m = 0 then (nmS (xp m) m.inp.toNat).1 else []
def Bj (m : Mly) : Int := if aR m = 0 then ((nmS (xp m) m.inp.toNat).2.length : Int) else 0
/-plain-/
structure RUN (m : Mly) : Prop where
  len : (lE m).length = m.inp.toNat
  ce : sM (lE m) = 0
  ck : Be (lE m) = Bj m
  eq : ∀ c d : Nat, c < m.inp.toNat → d < m.inp.toNat → ((lE m).getD c 0 = (lE m).getD d 0 ↔ xp m c d = true)
  ch : Bd m (lE m) = 0
  no : BS m (lE m) = false
/-plain-/
theorem v8 {cl : List Int} (hb : ∀ q, q < cl.length → iH cl q = false) : ∀ k, k ≤ cl.length → ∀ v, 0 ≤ v → v < cN cl k → ∃ q, q < k ∧ cl.getD q 0 = v
  | 0, _, v, h0, h1 => by simp only [cN] at h1; omega
  | k + 1, hk, v, h0, h1 => by
    have h2 := hb k (by omega)
    simp only [iH, Bool.or_eq_false_iff, decide_eq_false_iff_not] at h2
    simp only [cN] at h1
    by_cases e : v < cN cl k
    · obtain ⟨q, q1, q2⟩ := v8 hb k (by omega) v h0 e
      exact ⟨q, by omega, q2⟩
    · exact ⟨k, by omega, by omega⟩
theorem zd (cl : List Int) : ∀ k q, q < k → cl.getD q 0 < cN cl k
  | 0, q, h => by omega
  | k + 1, q, h => by
    simp only [cN]
    by_cases e : q = k
    · rw [e]; omega
    · have := zd cl k q (by omega); omega
theorem tk (cl : List Int) : ∀ k, 0 ≤ cN cl k
  | 0 => Int.le_refl _
  | k + 1 => by have := tk cl k; simp only [cN]; omega
structure STD (m : Mly) (C : List Int) (j : Nat) : Prop where
  len : C.length = m.inp.toNat
  ce : sM C = 0
  co : ∀ c d : Nat, c < m.inp.toNat → d < m.inp.toNat → xp m c d = true → C.getD c 0 = C.getD d 0
  ct : (j : Int) + 1 ≤ Be C
/-plain-/
theorem qa (m : Mly) (cl : List Int) : ∀ k, k ≤ m.nx.length → cN (m.nextL cl) k = ((dh (m.sig cl) k).length : Int) ∧ ∀ q, q < k → iH (m.nextL cl) q = false
  | 0, _ => ⟨by simp [cN, dh], fun q h => by omega⟩
  | k + 1, h => by
    obtain ⟨i1, i2⟩ := qa m cl k (by omega)
    have hv := jb (cl := cl) (s := k) (by omega : k < m.nx.length)
    by_cases hs : m.sig cl k ∈ dh (m.sig cl) k
    · have h1 := ny (cl := cl) (by omega : k < m.nx.length) hs
      have h2 := i8 hs
      rw [h1] at hv
      refine ⟨?_, fun q hq => ?_⟩
      · rw [dH, gg hs]; simp only [cN]; omega
      · by_cases e : q = k
        · subst e; exact p5 (by omega) (by omega)
        · exact i2 q (by omega)
    · have h1 := kF (cl := cl) (by omega : k < m.nx.length) hs
      rw [h1] at hv
      refine ⟨?_, fun q hq => ?_⟩
      · rw [dH, fu hs, aq]; simp only [cN, au, aC]; omega
      · by_cases e : q = k
        · subst e; exact p5 (by omega) (by omega)
        · exact i2 q (by omega)
theorem gU {m : Mly} (hm : MOK m) : ∀ q, q < m.eqc.length → iH m.eqc q = false := by
  obtain ⟨j, h1, h2, h3⟩ := kD hm
  rw [h1, jZ]
  cases j with
  | zero => exact fun q hq => p5 (by show 0 ≤ (List.replicate _ (0 : Int)).getD q 0; rw [xf]; omega) (by show (List.replicate _ (0 : Int)).getD q 0 ≤ _; rw [xf]; exact tk _ _)
  | succ i => exact (qa m (m.cls i) m.nx.length (Nat.le_refl _)).2
def dV (c : List Int) (k : Nat) : List Nat := (List.range k).filter fun s => decide (c.getD s 0 = cN c s)
theorem n7 {c : List Int} {k : Nat} (h : c.getD k 0 = cN c k) : dV c (k + 1) = dV c k ++ [k] := by
  unfold dV; rw [List.range_succ, List.filter_append]; simp only [List.filter_cons, List.filter_nil, h, decide_true, if_true]
theorem mR {c : List Int} {k : Nat} (h : ¬ c.getD k 0 = cN c k) : dV c (k + 1) = dV c k := by
  unfold dV; rw [List.range_succ, List.filter_append]; simp only [List.filter_cons, List.filter_nil, decide_eq_false h, Bool.false_eq_true, if_false, List.append_nil]
structure REP (c : List Int) (k : Nat) : Prop where
  len : ((dV c k).length : Int) = cN c k
  at_ : ∀ r, r < (dV c k).length → (dV c k).getD r 0 < k ∧ c.getD ((dV c k).getD r 0) 0 = r
theorem uF {xs ys : List Nat} {i : Nat} (h : i < xs.length) : (xs ++ ys).getD i 0 = xs.getD i 0 := by simp [List.getD, List.getElem?_append_left h]
theorem sT {c : List Int} (hb : ∀ q, q < c.length → iH c q = false) : ∀ k, k ≤ c.length → REP c k
  | 0, _ => ⟨rfl, fun r h => by simp [dV] at h⟩
  | k + 1, h => by
    have ih := sT hb k (by omega)
    have h1 := hb k (by omega)
    simp only [iH, Bool.or_eq_false_iff, decide_eq_false_iff_not] at h1
    have hl := ih.len
    by_cases e : c.getD k 0 = cN c k
    · rw [show REP c (k + 1) = REP c (k + 1) from rfl]
      refine ⟨?_, fun r hr => ?_⟩
      · rw [n7 e, aq]; simp only [au, aC, cN]; omega
      · rw [n7 e] at hr ⊢
        rw [aq] at hr; simp only [au, aC] at hr
        by_cases e2 : r = (dV c k).length
        · have : (dV c k ++ [k]).getD r 0 = k := by subst e2; simp [List.getD]
          rw [this]; exact ⟨by omega, by omega⟩
        · rw [uF (by omega)]
          have := ih.at_ r (by omega)
          exact ⟨by omega, this.2⟩
    · refine ⟨?_, fun r hr => ?_⟩
      · rw [mR e]; simp only [cN]; omega
      · rw [mR e] at hr ⊢
        have := ih.at_ r hr
        exact ⟨by omega, this.2⟩
def Mly.f (t : Mly) (x : Int) : Int := t.eqc.getD x.toNat 0
def Mly.reps (t : Mly) : List Nat := dV t.eqc t.nx.length
def Mly.qm (t : Mly) : Mly := ⟨t.inp, 0, t.reps.map (fun s => (t.nx.getD s []).map t.f), t.reps.map fun s => t.ot.getD s []⟩
theorem gW {t : Mly} (ht : MOK t) : REP t.eqc t.nx.length := by
  have hl := (fw ht).len
  have := sT (gU ht) t.nx.length (by omega)
  exact this
theorem pq (t : Mly) : t.qm.nx.length = t.reps.length := by simp [Mly.qm]
theorem wv {t : Mly} {r : Nat} (h : r < t.reps.length) : t.qm.nx.getD r [] = (t.nx.getD (t.reps.getD r 0) []).map t.f := by
  show (t.reps.map _).getD r [] = _
  rw [eW _ 0 _ h]
theorem wc {t : Mly} {r : Nat} (h : r < t.reps.length) : t.qm.ot.getD r [] = t.ot.getD (t.reps.getD r 0) [] := by
  show (t.reps.map _).getD r [] = _
  rw [eW _ 0 _ h]
theorem mO {t : Mly} (ht : MOK t) {s : Int} (h0 : 0 ≤ s) (h1 : s < t.nx.length) : 0 ≤ t.f s ∧ t.f s < t.reps.length := by
  have hl := (gW ht).len
  have := zd t.eqc t.nx.length s.toNat (by omega)
  have h2 := (fw ht).rng s.toNat (by omega)
  unfold Mly.f Mly.reps
  omega
theorem BG {t : Mly} (ht : MOK t) {s : Int} (h0 : 0 ≤ s) (h1 : s < t.nx.length) : t.reps.getD (t.f s).toNat 0 < t.nx.length ∧ t.f (t.reps.getD (t.f s).toNat 0 : Nat) = t.f s := by
  have hf := mO ht h0 h1
  have := (gW ht).at_ (t.f s).toNat (by have := hf.2; unfold Mly.reps at this; omega)
  refine ⟨this.1, ?_⟩
  show t.eqc.getD ((t.reps.getD (t.f s).toNat 0 : Nat) : Int).toNat 0 = _
  rw [ah]
  have h2 := this.2
  unfold Mly.reps
  rw [h2]; omega
theorem zi {t : Mly} (ht : MOK t) : MOK t.qm := by
  have hq := pq t
  have hr := gW ht
  have hn1 := ht.n1; have hn2 := ht.n2
  have h0 := mO ht (s := 0) (by omega) (by omega)
  have hle : t.reps.length ≤ t.nx.length := by
    unfold Mly.reps dV
    exact Nat.le_trans (List.length_filter_le _ _) (by simp)
  have hol : t.qm.ot.length = t.reps.length := by simp [Mly.qm]
  have hat : ∀ r, r < t.reps.length → t.reps.getD r 0 < t.nx.length := fun r h => (hr.at_ r h).1
  refine ⟨ht.i1, ht.i2, by omega, by omega, Int.le_refl 0, by show (0 : Int) < _; omega, by omega, fun s hs => ?_, fun s hs => ?_, fun s a hs ha => ?_, fun s a hs ha => ?_⟩
  · rw [wv (by omega), aD]
    exact ht.rl _ (hat s (by omega))
  · rw [wc (by omega)]
    exact ht.ql _ (hat s (by omega))
  · have ha' : (a : Int) < t.inp := ha
    have h1 := ht.rl _ (hat s (by omega))
    rw [wv (by omega), eW t.f 0 0 (by omega)]
    have h2 := ht.nr _ a (hat s (by omega)) ha'
    have := mO ht h2.1 h2.2
    omega
  · rw [wc (by omega)]
    exact ht.or _ a (hat s (by omega)) ha
theorem x0 {t : Mly} (ht : MOK t) {s a : Int} (h0 : 0 ≤ s) (h1 : s < t.nx.length) (ha : 0 ≤ a ∧ a < t.inp) : t.qm.out (t.f s) a = t.out s a ∧ t.qm.nxt (t.f s) a = t.f (t.nxt s a) := by
  have hf := mO ht h0 h1
  obtain ⟨r1, r2⟩ := BG ht h0 h1
  have e : t.eqc.getD (t.reps.getD (t.f s).toNat 0) 0 = t.eqc.getD s.toNat 0 := by
    have := r2
    unfold Mly.f at this
    rw [ah] at this
    exact this
  have hst := (fw ht).step _ s.toNat r1 (by omega) e a.toNat (by omega)
  have hrl := ht.rl _ r1
  constructor
  · show (t.qm.ot.getD (t.f s).toNat []).getD a.toNat 0 = _
    rw [wc (by omega), hst.1]; rfl
  · show (t.qm.nx.getD (t.f s).toNat []).getD a.toNat 0 = _
    rw [wv (by omega), eW t.f 0 0 (by omega)]
    exact hst.2
theorem x3 {t : Mly} (ht : MOK t) : ∀ (w : List Int) (s : Int), 0 ≤ s → s < t.nx.length → (∀ i : Nat, i < w.length → 0 ≤ w.getD i 0 ∧ w.getD i 0 < t.inp) → (t.qm.go (t.f s) w).2 = (t.go s w).2
  | [], s, _, _, _ => rfl
  | a :: w, s, h0, h1, hw => by
    obtain ⟨ha, hw2⟩ := qp hw
    obtain ⟨e1, e2⟩ := x0 ht h0 h1 ha
    rw [fH, fH, e1, e2]
    have hn := ht.nr s.toNat a.toNat (by omega) (by omega)
    have := x3 ht w (t.nxt s a) hn.1 hn.2 hw2
    rw [this]
theorem C4 {t : Mly} (ht : MOK t) : ∀ i j : Int, 0 ≤ i → i < t.qm.nx.length → 0 ≤ j → j < t.qm.nx.length → EQV t.qm i j → i = j := by
  intro i j i0 i1 j0 j1 h
  have hq := pq t
  have ri := (gW ht).at_ i.toNat (by unfold Mly.reps at hq; omega)
  have rj := (gW ht).at_ j.toNat (by unfold Mly.reps at hq; omega)
  have fi : t.f (((dV t.eqc t.nx.length).getD i.toNat 0 : Nat) : Int) = i := by unfold Mly.f; rw [ah, ri.2]; omega
  have fj : t.f (((dV t.eqc t.nx.length).getD j.toNat 0 : Nat) : Int) = j := by unfold Mly.f; rw [ah, rj.2]; omega
  have hv : EQV t (((dV t.eqc t.nx.length).getD i.toNat 0 : Nat) : Int) (((dV t.eqc t.nx.length).getD j.toNat 0 : Nat) : Int) := fun w hw => by
    have g1 := x3 ht w (((dV t.eqc t.nx.length).getD i.toNat 0 : Nat) : Int) (Int.natCast_nonneg _) (by have := ri.1; omega) hw
    have g2 := x3 ht w (((dV t.eqc t.nx.length).getD j.toNat 0 : Nat) : Int) (Int.natCast_nonneg _) (by have := rj.1; omega) hw
    rw [fi] at g1; rw [fj] at g2
    rw [← g1, ← g2]
    exact h w hw
  have := (mb ht (Int.natCast_nonneg _) (by have := ri.1; omega) (Int.natCast_nonneg _) (by have := rj.1; omega)).2 hv
  rw [← fi, ← fj]; exact this
/-plain-/
abbrev PP := Int × Int
abbrev SYS := PP → Nat → PP × Int
def d0 : PP := (0, 0)
def bL (F : SYS) (p : PP) (l : List PP) (x : Nat) : List PP := (List.range x).foldl (fun l y => gu l (F p y).1) l
def bN (F : SYS) (p : PP) (l : List PP) (x : Nat) : List Int := (List.range x).map fun y => (pos (bL F p l y) (F p y).1 : Int)
def bO (F : SYS) (p : PP) (x : Nat) : List Int := (List.range x).map fun y => (F p y).2
def bX (F : SYS) (p : PP) (l : List PP) (y : Nat) : Bool := decide (128 < (bL F p l (y + 1)).length) || decide (1048576 < (F p y).2)
abbrev BST := List PP × (List (List Int) × List (List Int))
def bA (F : SYS) (n i : Nat) (s : BST) : BST := (bL F (s.1.getD i d0) s.1 n, s.2.1 ++ [bN F (s.1.getD i d0) s.1 n], s.2.2 ++ [bO F (s.1.getD i d0) n])
def bF (F : SYS) (n : Nat) : Nat → Nat → BST → Option BST
  | 0, _, _ => none
  | f + 1, i, s => if i < s.1.length then if (List.range n).any (bX F (s.1.getD i d0) s.1) = true then none else bF F n f (i + 1) (bA F n i s) else some s
def bR (F : SYS) (n : Nat) (p0 : PP) : Option BST := bF F n 130 0 ([p0], [], [])
theorem kh (F : SYS) (p : PP) (l : List PP) (x : Nat) : bL F p l (x + 1) = gu (bL F p l x) (F p x).1 := by
  unfold bL; rw [List.range_succ, List.foldl_append]; rfl
theorem rS {α : Type} [DecidableEq α] (l : List α) (x : α) : ∃ k, gu l x = l ++ k := vK [x] l
theorem mc (F : SYS) (p : PP) (l : List PP) : ∀ x, ∃ k, bL F p l x = l ++ k
  | 0 => ⟨[], by simp [bL]⟩
  | x + 1 => by
    obtain ⟨k, e⟩ := mc F p l x
    obtain ⟨k', e'⟩ := rS (bL F p l x) (F p x).1
    exact ⟨k ++ k', by rw [kh, e', e, List.append_assoc]⟩
theorem pO (F : SYS) (p : PP) (l : List PP) (x : Nat) : ∀ d, ∃ k, bL F p l (x + d) = bL F p l x ++ k
  | 0 => ⟨[], by simp⟩
  | d + 1 => by
    obtain ⟨k, e⟩ := pO F p l x d
    obtain ⟨k', e'⟩ := rS (bL F p l (x + d)) (F p (x + d)).1
    exact ⟨k ++ k', by rw [← Nat.add_assoc, kh, e', e, List.append_assoc]⟩
theorem yY (F : SYS) (p : PP) (l : List PP) (x : Nat) : l.length ≤ (bL F p l x).length := by
  obtain ⟨k, e⟩ := mc F p l x
  rw [e, aq]; omega
theorem oQ (F : SYS) (p : PP) {l : List PP} (x : Nat) {i : Nat} (h : i < l.length) : (bL F p l x).getD i d0 = l.getD i d0 := by
  obtain ⟨k, e⟩ := mc F p l x
  rw [e]; simp [List.getD, List.getElem?_append_left h]
theorem yN (F : SYS) (p : PP) (l : List PP) {x y : Nat} (h : y < x) : (F p y).1 ∈ bL F p l x := by
  obtain ⟨k, e⟩ := pO F p l (y + 1) (x - (y + 1))
  rw [show x = y + 1 + (x - (y + 1)) by omega, e, List.mem_append, kh, rH]
  exact .inl (.inr rfl)
theorem rF (F : SYS) (p : PP) {l : List PP} (h : l.Nodup) : ∀ x, (bL F p l x).Nodup
  | 0 => by simpa [bL] using h
  | x + 1 => by rw [kh]; exact vy (rF F p h x) _
theorem zx {α : Type} [DecidableEq α] (l : List α) (x : α) : pos (gu l x) x = pos l x := by
  by_cases h : x ∈ l
  · rw [gg h]
  · rw [fu h, sC h, uT h]
theorem Av (F : SYS) (p : PP) (l : List PP) {x y : Nat} (h : y < x) : pos (bL F p l x) (F p y).1 = pos (bL F p l y) (F p y).1 := by
  obtain ⟨k, e⟩ := pO F p l (y + 1) (x - (y + 1))
  rw [show x = y + 1 + (x - (y + 1)) by omega, e, iC _ (yN F p l (Nat.lt_succ_self y)), kh, zx]
structure BOK (F : SYS) (n : Nat) (p0 : PP) (i : Nat) (s : BST) : Prop where
  nd : s.1.Nodup
  le : s.1.length ≤ 128
  nl : s.2.1.length = i
  ol : s.2.2.length = i
  il : i ≤ s.1.length
  hd : s.1.getD 0 d0 = p0
  h0 : 0 < s.1.length
  nx : ∀ j, j < i → s.2.1.getD j [] = (List.range n).map fun x => (pos s.1 (F (s.1.getD j d0) x).1 : Int)
  ot : ∀ j, j < i → s.2.2.getD j [] = (List.range n).map fun x => (F (s.1.getD j d0) x).2
  cl : ∀ j x, j < i → x < n → (F (s.1.getD j d0) x).1 ∈ s.1
  bd : ∀ j x, j < i → x < n → (F (s.1.getD j d0) x).2 ≤ 1048576
theorem dX {α : Type} {l : List α} {y d : α} {i : Nat} (h : i < l.length) : (l ++ [y]).getD i d = l.getD i d := by simp [List.getD, List.getElem?_append_left h]
theorem gQ {α : Type} {l : List α} {y d : α} {i : Nat} (h : i = l.length) : (l ++ [y]).getD i d = y := by subst h; simp [List.getD]
theorem zf {F : SYS} {p : PP} {l : List PP} {n : Nat} (h : (List.range n).any (bX F p l) = false) {y : Nat} (hy : y < n) : (bL F p l (y + 1)).length ≤ 128 ∧ (F p y).2 ≤ 1048576 := by
  rw [List.any_eq_false] at h
  have := h y (by simpa using hy)
  simp only [bX, Bool.not_eq_true, Bool.or_eq_false_iff, decide_eq_false_iff_not] at this
  omega
theorem Bk {F : SYS} {p : PP} {l : List PP} {n : Nat} (hl : l.length ≤ 128) (h : (List.range n).any (bX F p l) = false) : (bL F p l n).length ≤ 128 := by
  cases n with
  | zero => simpa [bL] using hl
  | succ n => exact (zf h (Nat.lt_succ_self n)).1
theorem BOK.step {F : SYS} {n : Nat} {p0 : PP} {i : Nat} {s : BST} (h : BOK F n p0 i s) (hi : i < s.1.length) (hb : (List.range n).any (bX F (s.1.getD i d0) s.1) = false) : BOK F n p0 (i + 1) (bA F n i s) where
  nd := rF F _ h.nd n
  le := Bk h.le hb
  nl := by simp [bA, h.nl]
  ol := by simp [bA, h.ol]
  il := Nat.le_trans hi (yY F _ s.1 n)
  hd := by simp only [bA]; rw [oQ F _ n h.h0]; exact h.hd
  h0 := Nat.lt_of_lt_of_le h.h0 (yY F _ s.1 n)
  nx := fun j hj => by
    simp only [bA]
    rw [oQ F _ n (show j < s.1.length by omega)]
    by_cases e : j = i
    · rw [gQ (by rw [h.nl, e]), e]
      exact List.map_congr_left fun x hx => by rw [Av F _ s.1 (List.mem_range.1 hx)]
    · have hji : j < i := by omega
      rw [dX (by rw [h.nl]; exact hji), h.nx j hji]
      refine List.map_congr_left fun x hx => ?_
      obtain ⟨k, ek⟩ := mc F (s.1.getD i d0) s.1 n
      rw [ek, iC _ (h.cl j x hji (List.mem_range.1 hx))]
  ot := fun j hj => by
    simp only [bA]
    rw [oQ F _ n (show j < s.1.length by omega)]
    by_cases e : j = i
    · rw [gQ (by rw [h.ol, e]), e]; rfl
    · rw [dX (by rw [h.ol]; omega), h.ot j (by omega)]
  cl := fun j x hj hx => by
    simp only [bA]
    rw [oQ F _ n (show j < s.1.length by omega)]
    by_cases e : j = i
    · rw [e]; exact yN F _ s.1 hx
    · obtain ⟨k, ek⟩ := mc F (s.1.getD i d0) s.1 n
      rw [ek, List.mem_append]
      exact .inl (h.cl j x (by omega) hx)
  bd := fun j x hj hx => by
    simp only [bA]
    rw [oQ F _ n (show j < s.1.length by omega)]
    by_cases e : j = i
    · rw [e]; exact (zf hb hx).2
    · exact h.bd j x (by omega) hx
section
variable {F : SYS} {n : Nat} {p0 : PP} {s : BST} (h : bR F n p0 = some s)
include h
end
/-plain-/
abbrev STP := PP → Nat → PP
abbrev W3 := PP × List Int
def w30 : W3 := (d0, [])
def dIn (l : List W3) (q : PP) : Bool := l.any fun f => decide (f.1 = q)
def dSt (A : STP) (e : W3) (l : List W3) (x : Nat) : List W3 := if dIn l (A e.1 x) = true then l else l ++ [(A e.1 x, e.2 ++ [(x : Int)])]
def jR (A : STP) (e : W3) (l : List W3) (x : Nat) : List W3 := (List.range x).foldl (dSt A e) l
theorem uL {l : List W3} {q : PP} : dIn l q = true ↔ q ∈ l.map Prod.fst := by
  unfold dIn
  rw [List.any_eq_true, List.mem_map]
  constructor
  · rintro ⟨e, he, h⟩; exact ⟨e, he, by simpa using h⟩
  · rintro ⟨e, he, h⟩; exact ⟨e, he, by simpa using h⟩
theorem tB {A : STP} {e : W3} {l : List W3} {x : Nat} (h : A e.1 x ∈ l.map Prod.fst) : dSt A e l x = l := if_pos (uL.2 h)
theorem pp {A : STP} {e : W3} {l : List W3} {x : Nat} (h : A e.1 x ∉ l.map Prod.fst) : dSt A e l x = l ++ [(A e.1 x, e.2 ++ [(x : Int)])] := if_neg fun k => h (uL.1 k)
theorem jx (A : STP) (e : W3) (l : List W3) (x : Nat) : jR A e l (x + 1) = dSt A e (jR A e l x) x := by
  unfold jR; rw [List.range_succ, List.foldl_append]; rfl
theorem yG (A : STP) (e : W3) (l : List W3) (x : Nat) : ∃ k, dSt A e l x = l ++ k := by
  unfold dSt; split
  · exact ⟨[], by simp⟩
  · exact ⟨_, rfl⟩
theorem pz (A : STP) (e : W3) (l : List W3) (x : Nat) : ∀ d, ∃ k, jR A e l (x + d) = jR A e l x ++ k
  | 0 => ⟨[], by simp⟩
  | d + 1 => by
    obtain ⟨k, h⟩ := pz A e l x d
    obtain ⟨k', h'⟩ := yG A e (jR A e l (x + d)) (x + d)
    exact ⟨k ++ k', by rw [← Nat.add_assoc, jx, h', h, List.append_assoc]⟩
theorem xx (A : STP) (e : W3) (l : List W3) (x : Nat) : ∃ k, jR A e l x = l ++ k := by
  obtain ⟨k, h⟩ := pz A e l 0 x
  rw [Nat.zero_add] at h
  exact ⟨k, h⟩
def inR (n1 n2 : Nat) (q : PP) : Prop := (0 ≤ q.1 ∧ q.1 < n1) ∧ 0 ≤ q.2 ∧ q.2 < n2
structure DW (n1 n2 : Nat) (l : List W3) : Prop where
  nd : (l.map Prod.fst).Nodup
  rg : ∀ e, e ∈ l → inR n1 n2 e.1
  wl : ∀ e, e ∈ l → e.2.length < l.length
theorem tE {l : List W3} {i : Nat} (h : i < l.length) : l.getD i w30 ∈ l := by simp [List.getD, h]
theorem DW.le {n1 n2 : Nat} {l : List W3} (h : DW n1 n2 l) : l.length ≤ n1 * n2 := by
  have hnd : ((l.map Prod.fst).map fun q : PP => q.1 * (n2 : Int) + q.2).Nodup := by
    rw [List.nodup_iff_pairwise_ne, List.pairwise_map]
    refine List.Pairwise.imp_of_mem (fun {a b} ha hb hab => ?_) (List.nodup_iff_pairwise_ne.1 h.nd)
    intro e
    obtain ⟨ea, hea, rfl⟩ := List.mem_map.1 ha
    obtain ⟨eb, heb, rfl⟩ := List.mem_map.1 hb
    have := sd (h.rg ea hea).2 (h.rg eb heb).2 e
    exact hab (Prod.ext this.1 this.2)
  have := fm (n1 * n2) _ hnd (fun x hx => by
    obtain ⟨q, hq, rfl⟩ := List.mem_map.1 hx
    obtain ⟨e, he, rfl⟩ := List.mem_map.1 hq
    have hr := h.rg e he
    have := uM hr.1 hr.2
    rw [Int.natCast_mul]; exact this)
  simpa using this
theorem DW.step {n1 n2 n : Nat} {A : STP} (hA : ∀ q, inR n1 n2 q → ∀ x, x < n → inR n1 n2 (A q x)) {l : List W3} (h : DW n1 n2 l) {e : W3} (he : e ∈ l) {x : Nat} (hx : x < n) : DW n1 n2 (dSt A e l x) := by
  by_cases hin : A e.1 x ∈ l.map Prod.fst
  · rw [tB hin]; exact h
  · rw [pp hin]
    refine ⟨?_, fun f hf => ?_, fun f hf => ?_⟩
    · rw [List.map_append, aJ, bg, List.nodup_append]
      refine ⟨h.nd, by simp, fun a ha b hb => ?_⟩
      simp at hb; subst hb
      intro hab; subst hab; exact hin ha
    · rcases List.mem_append.1 hf with hf | hf
      · exact h.rg f hf
      · simp at hf; subst hf; exact hA _ (h.rg e he) x hx
    · rw [aq, List.length_singleton]
      rcases List.mem_append.1 hf with hf | hf
      · have := h.wl f hf; omega
      · simp at hf; subst hf
        have := h.wl e he
        simp only [aq, List.length_singleton]; omega
theorem DW.row {n1 n2 n : Nat} {A : STP} (hA : ∀ q, inR n1 n2 q → ∀ x, x < n → inR n1 n2 (A q x)) {l : List W3} (h : DW n1 n2 l) {i : Nat} (hi : i < l.length) : ∀ x, x ≤ n → DW n1 n2 (jR A (l.getD i w30) l x)
  | 0, _ => by simpa [jR] using h
  | x + 1, hx => by
    rw [jx]
    refine (h.row hA hi x (by omega)).step hA ?_ (by omega)
    obtain ⟨k, e⟩ := xx A (l.getD i w30) l x
    rw [e]; exact List.mem_append.2 (.inl (tE hi))
/-plain-/
/-plain-/
/-plain-/
/-plain-/
def hF (h : PP → PP) (l : List W3) : List PP := l.map fun e => h e.1
structure HOM (A B : STP) (n : Nat) (I : PP → Prop) (h : PP → PP) : Prop where
  cl : ∀ p, I p → ∀ x, x < n → I (A p x)
  eq : ∀ p, I p → ∀ x, x < n → B (h p) x = h (A p x)
/-plain-/
theorem Bm {xs ys : List Int} (h : xs.length = ys.length) (h2 : ∀ i, i < xs.length → xs.getD i 0 = ys.getD i 0) : xs = ys := by
  refine List.ext_getElem h fun i h1 h3 => ?_
  have := h2 i h1
  simpa [List.getD, h1, h3] using this
/-plain-/
def dd (f : Int → Int) (l : List Int) : List Int := (l.map f).foldl cg []
theorem wF (f : Int → Int) (l : List Int) (x : Int) : dd f (l ++ [x]) = cg (dd f l) (f x) := by
  unfold dd; rw [List.map_append, List.foldl_append]; rfl
theorem x8 {f : Int → Int} {l : List Int} {y : Int} : y ∈ dd f l ↔ ∃ x, x ∈ l ∧ f x = y := by
  unfold dd; rw [gH, List.mem_map]; simp
theorem vf (f : Int → Int) : ∀ (r l : List Int), (r.map f).foldl cg (dd f l) = dd f (r.foldl cg l)
  | [], _ => rfl
  | x :: r, l => by
    rw [aJ, List.foldl_cons, List.foldl_cons, ← vf f r (cg l x)]
    congr 1
    by_cases h : x ∈ l
    · rw [gm h, gm (x8.2 ⟨x, h, rfl⟩)]
    · rw [eV h, wF]
theorem uj : ∀ (r l : List Int), (∀ x, x ∈ r → x ∈ l) → r.foldl cg l = l
  | [], _, _ => rfl
  | x :: r, l, h => by
    rw [List.foldl_cons, gm (h x (by simp))]
    exact uj r l fun y hy => h y (by simp [hy])
theorem lY (c : List Int) {a : Nat} : ∀ {b : Nat}, a ≤ b → cN c a ≤ cN c b
  | 0, h => by
    have : a = 0 := by omega
    subst this; exact Int.le_refl _
  | b + 1, h => by
    by_cases e : a = b + 1
    · subst e; exact Int.le_refl _
    · have := lY c (a := a) (b := b) (by omega)
      simp only [cN]; omega
theorem tp {t : Mly} (ht : MOK t) : ∀ k, k ≤ t.nx.length → dd t.f (rgI k) = rgI (cN t.eqc k).toNat
  | 0, _ => rfl
  | k + 1, h => by
    have hl := (fw ht).len
    have h1 := gU ht k (by omega)
    simp only [iH, Bool.or_eq_false_iff, decide_eq_false_iff_not] at h1
    have hn := tk t.eqc k
    have hf : t.f (k : Int) = t.eqc.getD k 0 := by unfold Mly.f; rw [ah]
    rw [sw, wF, tp ht k (by omega), hf]
    by_cases e : t.eqc.getD k 0 = cN t.eqc k
    · rw [eV (fun hm => by have := ik.1 hm; omega), show (cN t.eqc (k + 1)).toNat = (cN t.eqc k).toNat + 1 by simp only [cN]; omega, sw, e, Int.toNat_of_nonneg hn]
    · rw [gm (ik.2 ⟨by omega, by omega⟩), show (cN t.eqc (k + 1)).toNat = (cN t.eqc k).toNat by simp only [cN]; omega]
theorem qk {t : Mly} (ht : MOK t) {s : Int} (h0 : 0 ≤ s) (h1 : s < t.nx.length) : t.qm.row (t.f s) = (t.row s).map t.f := by
  have hf := mO ht h0 h1
  have hq := pq t
  have hi1 := ht.i1
  have r1 : ((t.qm.row (t.f s)).length : Int) = t.inp := (zi ht).rl (t.f s).toNat (by omega)
  have r2 : ((t.row s).length : Int) = t.inp := ht.rl s.toNat (by omega)
  refine Bm (by rw [aD]; omega) fun a ha => ?_
  rw [eW t.f 0 0 (by omega)]
  have := (x0 ht h0 h1 (a := (a : Int)) ⟨by omega, by omega⟩).2
  exact this
theorem yF {t : Mly} (ht : MOK t) (hr : t.reach = rgI t.nx.length) : ∀ (g i : Nat) (L : List Int), t.nx.length < g + i → t.rf g i L = t.reach → L = rgI L.length → L.length ≤ t.nx.length → i ≤ L.length →
    (∀ j : Nat, j < i → ∀ x, x ∈ t.row j → x ∈ L) → ∀ F, t.reps.length < F + (cN t.eqc i).toNat → t.qm.rf F (cN t.eqc i).toNat (dd t.f L) = dd t.f t.reach
  | 0, i, L, hg, _, _, hL, hi, _, F, _ => by omega
  | g + 1, i, L, hg, hrf, hp, hL, hi, hcl, F, hF => by
    have hlen := (fw ht).len
    have hK := (gW ht).len
    have hnn := tk t.eqc i
    have hdd : dd t.f L = rgI (cN t.eqc L.length).toNat := by
      have := tp ht L.length hL
      rwa [← hp] at this
    by_cases hil : i < L.length
    · have hLi : L.getD i 0 = (i : Int) := by rw [hp]; exact oz hil
      rw [gY t g i L hil, hLi] at hrf
      have hmi : (i : Int) ∈ L := by rw [← hLi]; exact bh hil
      have h1 := gU ht i (by omega)
      simp only [iH, Bool.or_eq_false_iff, decide_eq_false_iff_not] at h1
      have hm1 := lY t.eqc (a := i + 1) (b := L.length) (by omega)
      have hm2 := lY t.eqc (a := i) (b := t.nx.length) (by omega)
      have hpre : ∃ k, (t.row i).foldl cg L ++ k = rgI t.nx.length := by
        obtain ⟨k, e⟩ := kM t g (i + 1) ((t.row i).foldl cg L)
        exact ⟨k, by rw [← e, hrf, hr]⟩
      obtain ⟨k, hk⟩ := hpre
      have hp2 := pg hk
      have hL2 : ((t.row i).foldl cg L).length ≤ t.nx.length := by
        have := congrArg List.length hk
        rw [aq, dk] at this; omega
      have hge := mH (t.row i) L
      have hcl2 : ∀ j : Nat, j < i + 1 → ∀ x, x ∈ t.row j → x ∈ (t.row i).foldl cg L := fun j hj x hx => by
        by_cases e : j = i
        · subst e; exact gH.2 (.inr hx)
        · exact gH.2 (.inl (hcl j (by omega) x hx))
      have hfi : t.f (i : Int) = t.eqc.getD i 0 := by unfold Mly.f; rw [ah]
      have hfold := vf t.f (t.row i) L
      by_cases e : t.eqc.getD i 0 = cN t.eqc i
      · have ec : (cN t.eqc (i + 1)).toNat = (cN t.eqc i).toNat + 1 := by simp only [cN]; omega
        have hKb : (cN t.eqc i).toNat < t.reps.length := by
          have := lY t.eqc (a := i + 1) (b := t.nx.length) (by omega)
          unfold Mly.reps; omega
        obtain ⟨F2, rfl⟩ : ∃ F2, F = F2 + 1 := ⟨F - 1, by omega⟩
        have hlt : (cN t.eqc i).toNat < (dd t.f L).length := by rw [hdd, dk]; omega
        rw [gY t.qm F2 _ _ hlt]
        have hat : (dd t.f L).getD (cN t.eqc i).toNat 0 = t.f (i : Int) := by
          rw [hdd, oz (by rw [hdd, dk] at hlt; exact hlt), hfi]; omega
        rw [hat, qk ht (by omega) (by omega), hfold, ← ec]
        exact yF ht hr g (i + 1) _ (by omega) hrf hp2 hL2 (by omega) hcl2 F2 (by omega)
      · have ec : (cN t.eqc (i + 1)).toNat = (cN t.eqc i).toNat := by simp only [cN]; omega
        obtain ⟨q, q1, q2⟩ := v8 (gU ht) i (by omega) (t.eqc.getD i 0) (by omega) (by omega)
        have hfq : t.f (q : Int) = t.f (i : Int) := by rw [hfi, ← q2]; unfold Mly.f; rw [ah]
        have hrow : (t.row i).map t.f = (t.row q).map t.f := by
          rw [← qk ht (by omega) (by omega), ← qk ht (by omega) (by omega), hfq]
        have hin : ((t.row i).map t.f).foldl cg (dd t.f L) = dd t.f L := uj _ _ fun y hy => by
          rw [hrow, List.mem_map] at hy
          obtain ⟨x, hx, rfl⟩ := hy
          exact x8.2 ⟨x, hcl q q1 x hx, rfl⟩
        rw [hfold] at hin
        rw [← hin, ← ec]
        exact yF ht hr g (i + 1) _ (by omega) hrf hp2 hL2 (by omega) hcl2 F (by omega)
    · have hie : i = L.length := by omega
      rw [fL t _ _ _ (by omega)] at hrf
      rw [fL t.qm _ _ _ (by rw [hdd, dk, hie]; exact Nat.le_refl _), ← hrf]
theorem BA {t : Mly} (ht : MOK t) (hs : t.st = 0) (hr : t.reach = rgI t.nx.length) : CAN t.qm := by
  have hlen := (fw ht).len
  have hn1 := ht.n1
  have hK := (gW ht).len
  refine ⟨zi ht, rfl, ?_, C4 ht⟩
  have h0 := gU ht 0 (by omega)
  simp only [iH, Bool.or_eq_false_iff, decide_eq_false_iff_not] at h0
  have hz0 : cN t.eqc 0 = 0 := rfl
  have hf0 : t.f 0 = 0 := by unfold Mly.f; show t.eqc.getD 0 0 = 0; omega
  have hd0 : dd t.f [0] = [0] := by show cg [] (t.f 0) = _; rw [hf0]; rfl
  have hrf : t.rf (t.nx.length + 1) 0 [0] = t.reach := by rw [dY (dI ht), hs]
  have := yF ht hr (t.nx.length + 1) 0 [0] (by omega) hrf rfl (by simpa using hn1) (by simp) (fun j hj => by omega) (t.reps.length + 1) (by simp only [cN]; omega)
  rw [hd0] at this
  rw [dY (dI (zi ht)), pq]
  show t.qm.rf (t.reps.length + 1) 0 [0] = _
  rw [show (cN t.eqc 0).toNat = 0 from rfl] at this
  rw [this, hr, tp ht _ (Nat.le_refl _)]
  congr 1
  unfold Mly.reps; omega
def Mly.minm (m : Mly) : Mly := m.T.qm
theorem vz {m : Mly} (hm : MOK m) : CAN m.minm := BA (rJ hm) rfl (by rw [z7 hm, tm]; rfl)
theorem ow {m : Mly} (hm : MOK m) (w : List Int) (hw : ∀ i : Nat, i < w.length → 0 ≤ w.getD i 0 ∧ w.getD i 0 < m.inp) : (m.minm.go 0 w).2 = (m.go m.st w).2 := by
  have ht := rJ hm
  have hn := ht.n1
  have hlen := (fw ht).len
  have h0 := gU ht 0 (by omega)
  simp only [iH, Bool.or_eq_false_iff, decide_eq_false_iff_not] at h0
  have hz0 : cN m.T.eqc 0 = 0 := rfl
  have hf0 : m.T.f 0 = 0 := by unfold Mly.f; show m.T.eqc.getD 0 0 = 0; omega
  have h1 := x3 ht w 0 (by omega) (by omega) hw
  rw [hf0] at h1
  obtain ⟨k, hk⟩ := jc hm
  have h2 := (uQ hm (s := m.st) (by rw [hk]; simp) w hw).2.2
  rw [zR hm] at h2
  exact h1.trans h2
theorem AH {a b : Mly} (ha : MOK a) (hb : MOK b) (hi : a.inp = b.inp) : EQ2 a b a.st b.st ↔ EQ2 a.minm b.minm 0 0 := by
  constructor
  · intro h w hw
    rw [ow ha w hw, ow hb w (by rw [← hi]; exact hw)]; exact h w hw
  · intro h w hw
    rw [← ow ha w hw, ← ow hb w (by rw [← hi]; exact hw)]; exact h w hw
theorem yc {a b : Mly} (ha : MOK a) (hb : MOK b) (hi : a.inp = b.inp) : EQ2 a b a.st b.st ↔ a.minm = b.minm := by
  rw [AH ha hb hi]
  constructor
  · intro h
    obtain ⟨e1, e2⟩ := AS (vz ha) (vz hb) hi h
    show (⟨a.inp, 0, a.minm.nx, a.minm.ot⟩ : Mly) = ⟨b.inp, 0, b.minm.nx, b.minm.ot⟩
    rw [hi, e1, e2]
  · intro h w _
    rw [h]
/-plain-/
def Mly.qN (t : Mly) (k : Nat) : List (List Int) := (dV t.eqc k).map fun s => (t.nx.getD s []).map t.f
def Mly.qO (t : Mly) (k : Nat) : List (List Int) := (dV t.eqc k).map fun s => t.ot.getD s []
theorem B1 (t : Mly) (k : Nat) : (t.qN k).length = (dV t.eqc k).length := by simp [Mly.qN]
theorem Ak (t : Mly) (k : Nat) : (t.qO k).length = (dV t.eqc k).length := by simp [Mly.qO]
theorem oK {t : Mly} {k : Nat} (h : t.eqc.getD k 0 = cN t.eqc k) : t.qN (k + 1) = t.qN k ++ [(t.nx.getD k []).map t.f] ∧ t.qO (k + 1) = t.qO k ++ [t.ot.getD k []] := by
  unfold Mly.qN Mly.qO; rw [n7 h, List.map_append, List.map_append]; exact ⟨rfl, rfl⟩
theorem oM {t : Mly} {k : Nat} (h : ¬ t.eqc.getD k 0 = cN t.eqc k) : t.qN (k + 1) = t.qN k ∧ t.qO (k + 1) = t.qO k := by
  unfold Mly.qN Mly.qO; rw [mR h]; exact ⟨rfl, rfl⟩
def Mly.mres (m : Mly) : Mly := if aR m = 0 then m.minm else ⟨0, 0, [], []⟩
theorem mM {m : Mly} (h : ¬ aR m = 0) : m.mres = ⟨0, 0, [], []⟩ := if_neg h
theorem uz {m : Mly} (h : aR m = 0) : m.mres = m.trim.qm := by unfold Mly.mres; rw [if_pos h, wW h]; rfl
theorem yZ (c : List Int) (k : Nat) : (dV c k).length ≤ k := by
  unfold dV; exact Nat.le_trans (List.length_filter_le _ _) (by simp)
/-plain-/
def mnB (m : Mly) : Bool := decide (aR m = 0) && (decide (m.reach.length = m.nx.length) && decide (m.mres.nx.length = m.nx.length))
def dT (m : Mly) : Int := if ¬ aR m = 0 then aR m else if mnB m = true then 0 else 1
theorem Bn {m : Mly} (h : ¬ aR m = 0 ∨ ¬ m.reach.length = m.nx.length) : mnB m = false := by
  unfold mnB
  rcases h with h | h
  · rw [decide_eq_false h]; rfl
  · rw [decide_eq_false h]; simp
theorem BC {m : Mly} (h : aR m = 0) (h2 : m.reach.length = m.nx.length) : mnB m = decide (m.mres.nx.length = m.nx.length) := by
  unfold mnB; rw [decide_eq_true h, decide_eq_true h2]; rfl
/-plain-/
def smB (m : Mly) (cl : List Int) (s t a : Nat) : Prop := cl.getD s 0 = cl.getD t 0 ∧ ∀ b : Nat, b < a → (m.ot.getD s []).getD b 0 = (m.ot.getD t []).getD b 0 ∧ cl.getD ((m.nx.getD s []).getD b 0).toNat 0 = cl.getD ((m.nx.getD t []).getD b 0).toNat 0
theorem xv {m : Mly} {cl : List Int} {s t a : Nat} (h : smB m cl s t a) : smB m cl s t (a + 1) ↔ ((m.ot.getD s []).getD a 0 = (m.ot.getD t []).getD a 0 ∧ cl.getD ((m.nx.getD s []).getD a 0).toNat 0 = cl.getD ((m.nx.getD t []).getD a 0).toNat 0) := by
  constructor
  · intro h2; exact h2.2 a (by omega)
  · intro h2
    refine ⟨h.1, fun b hb => ?_⟩
    by_cases e : b = a
    · rw [e]; exact h2
    · exact h.2 b (by omega)
theorem zD {m : Mly} (hm : MOK m) {i s t : Nat} (hs : s < m.nx.length) (ht : t < m.nx.length) : smB m (m.cls i) s t m.inp.toNat ↔ m.sig (m.cls i) s = m.sig (m.cls i) t := by
  constructor
  · intro h; exact (kO hm).2 fun a ha => h.2 a (by omega)
  · intro h
    have h1 := (kO hm).1 h
    refine ⟨?_, fun b hb => h1 b (by omega)⟩
    exact j4 hm i s t hs ht ((gE hs ht).2 h)
theorem ym {m : Mly} {cl : List Int} {s t a b : Nat} (hab : a ≤ b) (h : ¬ smB m cl s t a) : ¬ smB m cl s t b := fun h2 => h ⟨h2.1, fun c hc => h2.2 c (by omega)⟩
def fnF (m : Mly) (cl : List Int) (s k : Nat) (fd : Int) : Prop := (fd = -1 ∧ ∀ t, k ≤ t → t < s → m.sig cl s ≠ m.sig cl t) ∨ (fd = (m.nextL cl).getD s 0 ∧ ∃ t, k ≤ t ∧ t < s ∧ m.sig cl s = m.sig cl t)
theorem AN {m : Mly} {cl : List Int} {s k : Nat} (hs : s < m.nx.length) (hk : k < s) (h : m.sig cl s = m.sig cl k) : fnF m cl s k ((m.nextL cl).getD k 0) :=
  .inr ⟨((gE hs (by omega)).2 h).symm, k, Nat.le_refl _, hk, h⟩
theorem By {m : Mly} {cl : List Int} {s k : Nat} {fd : Int} (h : fnF m cl s (k + 1) fd) (h2 : ¬ m.sig cl s = m.sig cl k) : fnF m cl s k fd := by
  rcases h with ⟨h3, h4⟩ | ⟨h3, t, h4, h5, h6⟩
  · refine .inl ⟨h3, fun t ht1 ht2 => ?_⟩
    by_cases e : t = k
    · rw [e]; exact h2
    · exact h4 t (by omega) ht2
  · exact .inr ⟨h3, t, by omega, h5, h6⟩
theorem Az {m : Mly} {cl : List Int} {s : Nat} {fd : Int} (hs : s < m.nx.length) (h : fnF m cl s 0 fd) (h2 : fd < 0) : (m.nextL cl).getD s 0 = ((dh (m.sig cl) s).length : Int) ∧ (dh (m.sig cl) (s + 1)).length = (dh (m.sig cl) s).length + 1 := by
  rcases h with ⟨h3, h4⟩ | ⟨h3, _⟩
  · have hn : m.sig cl s ∉ dh (m.sig cl) s := fun hx => by
      obtain ⟨t, ht, e⟩ := g0.1 hx
      exact h4 t (Nat.zero_le _) ht e.symm
    refine ⟨by rw [jb hs, kF hs hn], by rw [dH, fu hn, aq]; rfl⟩
  · have := (jr (m := m) (cl := cl) hs).1; omega
theorem B6 {m : Mly} {cl : List Int} {s : Nat} {fd : Int} (h : fnF m cl s 0 fd) (h2 : ¬ fd < 0) : (m.nextL cl).getD s 0 = fd ∧ (dh (m.sig cl) (s + 1)).length = (dh (m.sig cl) s).length := by
  rcases h with ⟨h3, _⟩ | ⟨h3, t, _, h5, h6⟩
  · omega
  · refine ⟨h3.symm, by rw [dH, gg (g0.2 ⟨t, h5, h6.symm⟩)]⟩
theorem qK {l : List Int} {k j : Nat} (h : j < k) : (l.take k).getD j 0 = l.getD j 0 := by
  simp [List.getD, List.getElem?_take_of_lt h]
/-plain-/
abbrev BV := List (List Int)
theorem lH {l r : List Int} {i : Nat} (h : i < l.length) : (l ++ r).getD i 0 = l.getD i 0 := by simp [List.getD, List.getElem?_append_left h]
def cAt (m : Mly) (t : Int) : Int := (m.cls m.nx.length).getD t.toNat 0
def nmC (m : Mly) : Nat → List Int → Int → Int
  | _, [], _ => -1
  | i, o :: O, c => if cAt m o = c then (i : Int) else nmC m (i + 1) O c
def nmO (m : Mly) (O : List Int) (c : Int) : Int := nmC m 0 O c
def gl (m : Mly) (O : List Int) : List Int := (List.range m.nx.length).map fun (c : Nat) => nmO m O c
theorem lR {m : Mly} {c : Int} : ∀ (O : List Int) (i : Nat), (nmC m i O c = -1 ∧ ∀ o ∈ O, cAt m o ≠ c) ∨ ((i : Int) ≤ nmC m i O c ∧ nmC m i O c < i + O.length ∧ ∃ o ∈ O, cAt m o = c)
  | [], i => .inl ⟨rfl, fun o h => by cases h⟩
  | o :: O, i => by
    by_cases e : cAt m o = c
    · have : nmC m i (o :: O) c = i := if_pos e
      rw [this]
      exact .inr ⟨by omega, by simp only [au]; omega, o, aO .., e⟩
    · have : nmC m i (o :: O) c = nmC m (i + 1) O c := if_neg e
      rw [this]
      rcases lR (c := c) O (i + 1) with ⟨h1, h2⟩ | ⟨h1, h2, o2, h3, h4⟩
      · exact .inl ⟨h1, fun o' ho => Or.elim (List.mem_cons.1 ho) (fun h9 => h9 ▸ e) (fun h9 => h2 o' h9)⟩
      · exact .inr ⟨by omega, by simp only [au]; omega, o2, aL _ h3, h4⟩
theorem uR {m : Mly} {c t : Int} : ∀ (O : List Int) (i : Nat), nmC m i (O ++ [t]) c = if nmC m i O c = -1 then (if cAt m t = c then ((i + O.length : Nat) : Int) else -1) else nmC m i O c
  | [], i => by show (if _ then _ else _) = _; simp [nmC]
  | o :: O, i => by
    by_cases e : cAt m o = c
    · have h1 : nmC m i (o :: O) c = i := if_pos e
      have h2 : nmC m i (o :: O ++ [t]) c = i := if_pos e
      rw [h1, h2, if_neg (by omega)]
    · have h1 : nmC m i (o :: O) c = nmC m (i + 1) O c := if_neg e
      have h2 : nmC m i (o :: O ++ [t]) c = nmC m (i + 1) (O ++ [t]) c := if_neg e
      rw [h1, h2, uR O (i + 1), au, show i + 1 + O.length = i + (O.length + 1) by omega]
theorem bv (m : Mly) (O : List Int) : (gl m O).length = m.nx.length := by simp [gl]
theorem xS {m : Mly} {O : List Int} {c : Nat} (h : c < m.nx.length) : (gl m O).getD c 0 = nmO m O c := by unfold gl; simp [List.getD, h]
theorem rM {m : Mly} {O : List Int} {t : Int} {c : Nat} (h : c < m.nx.length) (hc : cAt m t = c) (hn : nmO m O c < 0) : (gl m O).set c (O.length : Int) = gl m (O ++ [t]) := by
  have hn1 : nmO m O c = -1 := by
    rcases lR (m := m) (c := (c : Int)) O 0 with ⟨h1, _⟩ | ⟨h1, _⟩
    · exact h1
    · unfold nmO at hn; omega
  apply List.ext_getElem
  · simp [gl]
  · intro i h1 h2
    have hi : i < m.nx.length := by simpa [gl] using h2
    rw [List.getElem_set]
    unfold gl nmO
    simp only [List.getElem_map, List.getElem_range, uR]
    by_cases e : c = i
    · subst e
      have hn2 : nmC m 0 O (c : Int) = -1 := hn1
      rw [if_pos rfl, if_pos hn2, if_pos hc]; simp
    · rw [if_neg e]
      by_cases e2 : nmC m 0 O (i : Int) = -1
      · rw [if_pos e2, if_neg (by rw [hc]; omega)]; exact e2
      · rw [if_neg e2]
theorem xH (m : Mly) : gl m [] = List.replicate m.nx.length (-1) := by
  unfold gl nmO nmC; simp [List.map_const']
def mmA (m : Mly) (O : List Int) (t : Int) : List Int := if nmO m O (cAt m t) < 0 then O ++ [t] else O
def qZ (m : Mly) (x : Int) (p : List Int × List Int) (a : Nat) : List Int × List Int := (mmA m p.1 (m.nxt x a), p.2 ++ [nmO m (mmA m p.1 (m.nxt x a)) (cAt m (m.nxt x a))])
def cZ (m : Mly) (x : Int) (O : List Int) (k : Nat) : List Int × List Int := (List.range k).foldl (qZ m x) (O, [])
theorem fZ {m : Mly} {x : Int} {O : List Int} {k : Nat} : cZ m x O (k + 1) = qZ m x (cZ m x O k) k := by unfold cZ; rw [List.range_succ, List.foldl_append]; rfl
def nI (m : Mly) : Nat → Nat → List Int × List (List Int) → List Int × List (List Int)
  | 0, _, p => p
  | f + 1, i, p => if i < p.1.length then nI m f (i + 1) ((cZ m (p.1.getD i 0) p.1 m.inp.toNat).1, p.2 ++ [(cZ m (p.1.getD i 0) p.1 m.inp.toNat).2]) else p
def mmF (m : Mly) : List Int × List (List Int) := nI m (m.nx.length + 1) 0 ([m.st], [])
theorem pr {m : Mly} {f i : Nat} {p : List Int × List (List Int)} (h : i < p.1.length) : nI m (f + 1) i p = nI m f (i + 1) ((cZ m (p.1.getD i 0) p.1 m.inp.toNat).1, p.2 ++ [(cZ m (p.1.getD i 0) p.1 m.inp.toNat).2]) := if_pos h
theorem r7 {m : Mly} {f i : Nat} {p : List Int × List (List Int)} (h : ¬ i < p.1.length) : nI m f i p = p := by
  cases f with
  | zero => rfl
  | succ f => exact if_neg h
structure MO (m : Mly) (O : List Int) : Prop where
  rng : ∀ o ∈ O, 0 ≤ o ∧ o < m.nx.length
  cd : O.Pairwise fun x y => cAt m x ≠ cAt m y
theorem MO.nd {m : Mly} {O : List Int} (h : MO m O) : O.Nodup := h.cd.imp fun h e => h (by rw [e])
theorem MO.len {m : Mly} {O : List Int} (h : MO m O) : O.length ≤ m.nx.length := fm _ _ h.nd h.rng
theorem AG {m : Mly} {O : List Int} {t : Int} (h : MO m O) (ht : 0 ≤ t ∧ t < m.nx.length) : MO m (mmA m O t) := by
  unfold mmA
  split
  · rename_i hn
    refine ⟨fun o ho => ?_, ?_⟩
    · rcases List.mem_append.1 ho with h1 | h1
      · exact h.rng o h1
      · rw [List.mem_singleton] at h1; rw [h1]; exact ht
    · rw [List.pairwise_append]
      refine ⟨h.cd, List.pairwise_singleton _ _, fun x hx y hy => ?_⟩
      rw [List.mem_singleton] at hy; subst hy
      rcases lR (m := m) (c := cAt m y) O 0 with ⟨_, h2⟩ | ⟨h2, _⟩
      · exact h2 x hx
      · unfold nmO at hn; omega
  · exact h
theorem kB {m : Mly} (hm : MOK m) {x : Int} (hx : 0 ≤ x ∧ x < m.nx.length) {O : List Int} (h : MO m O) : ∀ k : Nat, (k : Int) ≤ m.inp → MO m (cZ m x O k).1 ∧ (cZ m x O k).2.length = k ∧ ∃ r, (cZ m x O k).1 = O ++ r
  | 0, _ => ⟨h, rfl, [], (List.append_nil _).symm⟩
  | k + 1, hk => by
    obtain ⟨h1, h2, r, h3⟩ := kB hm hx h k (by omega)
    rw [fZ]
    refine ⟨AG h1 (hm.nr x.toNat k (by omega) (by omega)), by show (_ ++ [_]).length = _; rw [aq, h2]; rfl, ?_⟩
    show ∃ r, mmA m (cZ m x O k).1 _ = O ++ r
    unfold mmA
    split
    · exact ⟨r ++ [m.nxt x k], by rw [h3, List.append_assoc]⟩
    · exact ⟨r, h3⟩
theorem uk {m : Mly} (hm : MOK m) {t : Int} (ht : 0 ≤ t ∧ t < m.nx.length) : 0 ≤ cAt m t ∧ cAt m t < m.nx.length := oU hm _ _ (by omega)
/-plain-/
def mmB (m : Mly) : Bool := decide (aR m = 0) && decide ((mmF m).2.length = m.nx.length)
def eK (m : Mly) : Int := if ¬ aR m = 0 then aR m else if mmB m = true then 0 else 1
/-plain-/
def cmL (x : aX) : Bool := !(decide (x.2.1 = -1) && !decide (x.1.length = 1))
def gh (T : List aX) : Bool := T.all cmL && decide (0 < T.length)
theorem Bq {T : List aX} {i : Nat} (h : i < T.length) (h2 : (T.getD i nd0).2.1 = -1 ∧ ¬ (T.getD i nd0).1.length = 1) : gh T = false := by
  have hm : T.getD i nd0 ∈ T := by simp [List.getD, h]
  have : T.all cmL = false := by
    rw [List.all_eq_false]
    exact ⟨_, hm, by unfold cmL; rw [decide_eq_true h2.1, decide_eq_false h2.2]; decide⟩
  unfold gh; rw [this]; rfl
theorem wB {T : List aX} (h : ∀ i, i < T.length → ¬ ((T.getD i nd0).2.1 = -1 ∧ ¬ (T.getD i nd0).1.length = 1)) : gh T = decide (0 < T.length) := by
  have : T.all cmL = true := by
    rw [List.all_eq_true]
    intro x hx
    obtain ⟨i, hi⟩ := List.getElem?_of_mem hx
    have hl := (List.getElem?_eq_some_iff.1 hi).1
    have e : T.getD i nd0 = x := by simp [List.getD, hi]
    have := h i hl
    rw [e] at this
    unfold cmL
    by_cases h1 : x.2.1 = -1
    · have h2 : x.1.length = 1 := by
        by_cases h2 : x.1.length = 1
        · exact h2
        · exact absurd ⟨h1, h2⟩ this
      rw [decide_eq_true h2]; simp
    · rw [decide_eq_false h1]; rfl
  unfold gh; rw [this]; rfl
def fC (m : Mly) (T : List aX) : Int := if ¬ dT m = 0 then dT m else if 4096 < T.length ∨ ¬ rtF m T (T.length + 1) 0 (rgI m.nx.length) (rgI m.nx.length) = some T.length then 1 else 0
theorem m9 (m : Mly) : cO m (rgI m.nx.length) := by
  intro s hs
  unfold rgI at hs
  obtain ⟨q, hq, rfl⟩ := List.mem_map.1 hs
  have := List.mem_range.1 hq
  omega
/-plain-/
def iq (n : Nat) (rec : List Int → List Int → Nat → List aX) (m : Mly) (ini cur : List Int) (a : Int) (t : List aX × List dD) (o : Int) : List aX × List dD :=
  (t.1 ++ rec (bU m ini cur a cur.length o) (bE m cur a cur.length o) (n + 1 + t.1.length), t.2 ++ [(o, ((n + 1 + t.1.length : Nat) : Int), ())])
def dt (m : Mly) : Nat → List Int → List Int → List Int → Nat → List aX
  | 0, _, _, _, _ => []
  | f + 1, ini, cur, w, n => if 4096 < n then [] else
    match dR m ini cur w with
    | [] => [(ini, -1, [], ())]
    | a :: w2 => (ini, a, ((aA (ouL m cur a)).foldl (iq n (fun i c k => dt m f i c w2 k) m ini cur a) ([], [])).2, ()) :: ((aA (ouL m cur a)).foldl (iq n (fun i c k => dt m f i c w2 k) m ini cur a) ([], [])).1
theorem gC {m : Mly} {f n : Nat} {ini cur w : List Int} (h : 4096 < n) : dt m (f + 1) ini cur w n = [] := by
  rw [dt, if_pos h]
theorem gO {m : Mly} {f n : Nat} {ini cur w : List Int} (h : ¬ 4096 < n) (h2 : dR m ini cur w = []) : dt m (f + 1) ini cur w n = [(ini, -1, [], ())] := by
  rw [dt, if_neg h, h2]
theorem fP {m : Mly} {f n : Nat} {ini cur w w2 : List Int} {a : Int} (h : ¬ 4096 < n) (h2 : dR m ini cur w = a :: w2) :
    dt m (f + 1) ini cur w n = (ini, a, ((aA (ouL m cur a)).foldl (iq n (fun i c k => dt m f i c w2 k) m ini cur a) ([], [])).2, ()) :: ((aA (ouL m cur a)).foldl (iq n (fun i c k => dt m f i c w2 k) m ini cur a) ([], [])).1 := by
  rw [dt, if_neg h, h2]
theorem r0 {n : Nat} {rec : List Int → List Int → Nat → List aX} {m : Mly} {ini cur : List Int} {a : Int} {ks : List Int} {i : Nat} {D : List aX} {K : List dD} (hi : i < ks.length) (h : (ks.take i).foldl (iq n rec m ini cur a) ([], []) = (D, K)) :
    (ks.take (i + 1)).foldl (iq n rec m ini cur a) ([], []) = (D ++ rec (bU m ini cur a cur.length (ks.getD i 0)) (bE m cur a cur.length (ks.getD i 0)) (n + 1 + D.length), K ++ [(ks.getD i 0, ((n + 1 + D.length : Nat) : Int), ())]) := by
  rw [cY hi, List.foldl_append, h]; rfl
theorem wO {n : Nat} {rec : List Int → List Int → Nat → List aX} {m : Mly} {ini cur : List Int} {a : Int} (hr : ∀ i c k, k ≤ 4097 → k + (rec i c k).length ≤ 4097) : ∀ (ks : List Int) {t : List aX × List dD}, n + 1 + t.1.length ≤ 4097 → n + 1 + (ks.foldl (iq n rec m ini cur a) t).1.length ≤ 4097
  | [], _, h => h
  | o :: ks, t, h => by
    rw [List.foldl_cons]
    refine wO hr ks ?_
    have := hr (bU m ini cur a cur.length o) (bE m cur a cur.length o) (n + 1 + t.1.length) (by omega)
    show n + 1 + (t.1 ++ _).length ≤ 4097
    simp only [aq]; omega
theorem mv (m : Mly) : ∀ (f : Nat) (ini cur w : List Int) (n : Nat), n ≤ 4097 → n + (dt m f ini cur w n).length ≤ 4097
  | 0, _, _, _, n, h => by simp only [dt, aC]; omega
  | f + 1, ini, cur, w, n, h => by
    by_cases e : 4096 < n
    · rw [gC e]; simp only [aC]; omega
    · cases hw : dR m ini cur w with
      | nil => rw [gO e hw]; simp only [au, aC]; omega
      | cons a w2 =>
        rw [fP e hw, au]
        have := wO (n := n) (rec := fun i c k => dt m f i c w2 k) (m := m) (ini := ini) (cur := cur) (a := a) (fun i c k hk => mv m f i c w2 k hk) (aA (ouL m cur a)) (t := ([], [])) (by simp only [aC]; omega)
        omega
theorem um {k : Nat} {fl : List Value} {v : Nat} {ini : List Int} {a : Int} {K : List dD} {D : List aX} : (dc fl ++ .list (.int .i64) ini :: .int .i64 a :: .row k v :: ndC D).map (frC k v kdT K) = dc fl ++ ndC ((ini, a, K, ()) :: D) := by
  rw [List.map_append, lO, aJ, aJ, aJ, qu, iZ]
  simp only [frC, and_self, if_true]
theorem ru (m : Mly) (l : List Int) : (fdW m l).isSome = decide (0 < ((fdW m l).getD []).length) := by
  have h := (pm m l).2
  cases hf : fdW m l with
  | none => rfl
  | some w =>
    rw [hf] at h
    cases w with
    | nil => exact absurd (h rfl) (by simp)
    | cons a w => simp
theorem di (m : Mly) (cur : List Int) (a o : Int) : cr m (bU m cur cur a cur.length o) a = bE m cur a cur.length o := rfl
theorem dG (m : Mly) (ini cur : List Int) (a o : Int) : pkL ini (ptL m cur a o cur.length) = bU m ini cur a cur.length o := rfl
theorem x4 {m : Mly} {cur : List Int} {a o : Int} (h : cO m cur) : cO m (pkL cur (ptL m cur a o cur.length)) := by
  intro s hs
  unfold pkL at hs
  obtain ⟨x, hx, rfl⟩ := List.mem_map.1 hs
  obtain ⟨q, hq, _, rfl⟩ := jX.1 hx
  rw [ah]
  exact h _ (bh hq)
theorem m5 {m : Mly} {cur : List Int} {a o : Int} {n : Nat} (hn : n = cur.length) : ∀ x ∈ ptL m cur a o cur.length, 0 ≤ x ∧ x < n := by
  intro x hx
  obtain ⟨q, hq, _, rfl⟩ := jX.1 hx
  omega
theorem jQ {m : Mly} {n : Nat} {rp rr : List Int → List Int → Nat → List aX} {ini cur : List Int} {a : Int} (h1 : ∀ i c k, n + 1 ≤ k → k ≤ 4096 → (k + (rp i c k).length ≤ 4096 ∧ rr i c k = rp i c k) ∨ (4096 < k + (rp i c k).length ∧ 4096 < k + (rr i c k).length)) :
    ∀ (ks : List Int) (t u : List aX × List dD), (n + 1 + t.1.length ≤ 4096 ∧ u = t) ∨ (4096 < n + 1 + t.1.length ∧ 4096 < n + 1 + u.1.length) →
      (n + 1 + (ks.foldl (dm n rp m ini cur a) t).1.length ≤ 4096 ∧ ks.foldl (iq n rr m ini cur a) u = ks.foldl (dm n rp m ini cur a) t) ∨
      (4096 < n + 1 + (ks.foldl (dm n rp m ini cur a) t).1.length ∧ 4096 < n + 1 + (ks.foldl (iq n rr m ini cur a) u).1.length)
  | [], _, _, h => h
  | o :: ks, t, u, h => by
    rw [List.foldl_cons, List.foldl_cons]
    refine jQ h1 ks _ _ ?_
    rcases h with ⟨ha, rfl⟩ | ⟨ha, hb⟩
    · have e : dm n rp m ini cur a u o = (u.1 ++ rp (bU m ini cur a cur.length o) (bE m cur a cur.length o) (n + 1 + u.1.length), u.2 ++ [(o, ((n + 1 + u.1.length : Nat) : Int), ())]) := if_neg (by omega)
      rw [e]
      rcases h1 (bU m ini cur a cur.length o) (bE m cur a cur.length o) (n + 1 + u.1.length) (by omega) ha with ⟨h2, h3⟩ | ⟨h2, h3⟩
      · refine .inl ⟨by simp only [aq]; omega, ?_⟩
        show (_, _) = (_, _)
        rw [h3]
      · refine .inr ⟨by simp only [aq]; omega, ?_⟩
        show 4096 < n + 1 + (u.1 ++ _).length
        simp only [aq]; omega
    · have e : dm n rp m ini cur a t o = t := if_pos ha
      rw [e]
      refine .inr ⟨ha, ?_⟩
      show 4096 < n + 1 + (u.1 ++ _).length
      simp only [aq]; omega
theorem oX (m : Mly) : ∀ (f : Nat) (ini cur w : List Int) (n : Nat), n ≤ 4096 → 4098 ≤ f + n →
    (n + (cq m f ini cur w n).length ≤ 4096 ∧ dt m f ini cur w n = cq m f ini cur w n) ∨ (4096 < n + (cq m f ini cur w n).length ∧ 4096 < n + (dt m f ini cur w n).length)
  | 0, _, _, _, n, h, h2 => by omega
  | f + 1, ini, cur, w, n, h, h2 => by
    cases hw : dR m ini cur w with
    | nil =>
      rw [gO (by omega) hw]
      by_cases e : 4096 < n + 1
      · rw [dZ e]; simp only [au, aC]; omega
      · rw [ew e hw]
        exact .inl ⟨by simp only [au, aC]; omega, rfl⟩
    | cons a w2 =>
      rw [fP (by omega) hw]
      by_cases e : 4096 < n + 1
      · rw [dZ e]
        exact .inr ⟨by simp only [au, aC]; omega, by simp only [au]; omega⟩
      · rw [d7 e hw]
        have hh := jQ (m := m) (n := n) (rp := fun i c k => cq m f i c w2 k) (rr := fun i c k => dt m f i c w2 k) (ini := ini) (cur := cur) (a := a)
          (fun i c k hnk hk => oX m f i c w2 k hk (by omega)) (aA (ouL m cur a)) ([], []) ([], []) (.inl ⟨by simp only [aC]; omega, rfl⟩)
        simp only [au]
        rcases hh with ⟨h3, h4⟩ | ⟨h3, h4⟩
        · exact .inl ⟨by omega, by rw [h4]⟩
        · exact .inr ⟨by omega, by omega⟩
/-plain-/
theorem aY (n : Nat) : (List.range n).map (fun (i : Nat) => (i : Int)) = rgI n := rfl
theorem tG {m : Mly} (h : dT m = 0) : aR m = 0 := by
  unfold dT at h
  by_cases hv : aR m = 0
  · exact hv
  · rw [if_pos hv] at h; exact absurd h hv
theorem Aw {m : Mly} (h : eK m = 0) : aR m = 0 := by
  unfold eK at h
  by_cases hv : aR m = 0
  · exact hv
  · rw [if_pos hv] at h; exact absurd h hv
theorem AY {m : Mly} {T : List aX} {f p : Nat} {ini cur : List Int} (h : (rtF m T f p ini cur).isSome = false ∨ ¬ rtP m T f p ini cur = (T.length : Int)) : ¬ rtF m T f p ini cur = some T.length := by
  intro e
  rcases h with h | h
  · rw [e] at h; cases h
  · exact h (dx e)
theorem z6 {m : Mly} {T : List aX} {f p : Nat} {ini cur : List Int} (h : (rtF m T f p ini cur).isSome = true ∧ rtP m T f p ini cur = (T.length : Int)) : rtF m T f p ini cur = some T.length := by
  obtain ⟨n, e⟩ := Option.isSome_iff_exists.1 h.1
  have h2 := h.2
  rw [dx e] at h2
  rw [e]; congr 1; omega
/-plain-/
structure MIN12 (m : Mly) : Prop where
  rc : ∀ s : Int, 0 ≤ s → s < m.nx.length → s ∈ m.reach
  ds : ∀ s t : Int, 0 ≤ s → s < m.nx.length → 0 ≤ t → t < m.nx.length → EQV m s t → s = t
theorem oI (n : Nat) : (rgI n).Nodup := List.pairwise_map.2 (List.nodup_range.imp fun {a b} h e => h (by omega))
theorem uv {n : Nat} {l : List Int} (hn : l.Nodup) (hr : ∀ x, x ∈ l → 0 ≤ x ∧ x < n) (hl : l.length = n) {s : Int} (h0 : 0 ≤ s) (h1 : s < n) : s ∈ l := by
  by_cases e : s ∈ l
  · exact e
  · exfalso
    have := fm n (s :: l) (List.nodup_cons.2 ⟨e, hn⟩) (fun x hx => by
      rcases List.mem_cons.1 hx with h | h
      · rw [h]; exact ⟨h0, h1⟩
      · exact hr x h)
    simp only [au] at this
    omega
theorem rI {n : Nat} {l : List Int} (h : ∀ s : Int, 0 ≤ s → s < n → s ∈ l) : n ≤ l.length := by
  have h1 := oI n
  have h2 := eF (rgI n) l h1 fun x hx => by
    unfold rgI at hx
    obtain ⟨q, hq, rfl⟩ := List.mem_map.1 hx
    have := List.mem_range.1 hq
    exact h _ (by omega) (by omega)
  rw [dk] at h2; exact h2
theorem zA (t : Mly) : t.reps.length ≤ t.nx.length := by
  unfold Mly.reps dV
  exact Nat.le_trans (List.length_filter_le _ _) (by simp)
theorem Bb {t : Mly} (ht : MOK t) (h : t.reps.length = t.nx.length) {s : Int} (h0 : 0 ≤ s) (h1 : s < t.nx.length) : t.f s = s := by
  have e : t.reps = List.range t.nx.length := by
    unfold Mly.reps dV at h ⊢
    refine List.filter_eq_self.2 ?_
    refine List.length_filter_eq_length_iff.1 ?_
    rw [h]; simp
  have h2 := ((gW ht).at_ s.toNat (by
    have : (dV t.eqc t.nx.length).length = t.nx.length := h
    omega)).2
  have h3 : (dV t.eqc t.nx.length).getD s.toNat 0 = s.toNat := by
    have : dV t.eqc t.nx.length = List.range t.nx.length := e
    rw [this]
    simp [List.getD, show s.toNat < t.nx.length by omega]
  rw [h3] at h2
  show t.eqc.getD s.toNat 0 = s
  rw [h2]; omega
theorem Ag {m : Mly} (hv : aR m = 0) : mnB m = true ↔ MIN12 m := by
  have hm := fc hv
  have ht := rJ hm
  have hT : m.T.nx.length = m.reach.length := tm m
  have hR := fX hm
  have hmr : m.mres.nx.length = m.T.reps.length := by unfold Mly.mres; rw [if_pos hv]; exact pq m.T
  unfold mnB
  rw [decide_eq_true hv, Bool.true_and, Bool.and_eq_true, decide_eq_true_eq, decide_eq_true_eq, hmr]
  constructor
  · rintro ⟨h1, h2⟩
    have hrc : ∀ s : Int, 0 ≤ s → s < m.nx.length → s ∈ m.reach := fun s h0 h3 => uv hR.nd hR.rng h1 h0 h3
    refine ⟨hrc, fun s t s0 s1 t0 t1 he => ?_⟩
    have hs := hrc s s0 s1
    have htt := hrc t t0 t1
    have x1 := mn hm hs
    have x2 := mn hm htt
    have he2 : EQV m.T (m.ix s) (m.ix t) := fun w hw => by
      rw [(uQ hm hs w hw).2.2, (uQ hm htt w hw).2.2]; exact he w hw
    have h3 := (mb ht (by omega) (by omega) (by omega) (by omega)).2 he2
    have f1 := Bb ht (by omega) (s := m.ix s) (by omega) (by omega)
    have f2 := Bb ht (by omega) (s := m.ix t) (by omega) (by omega)
    exact x6 hm hs htt (by
      rw [← f1, ← f2]; exact h3)
  · intro h
    have h1 : m.reach.length = m.nx.length := Nat.le_antisymm hR.len (rI h.rc)
    refine ⟨h1, ?_⟩
    have hle := zA m.T
    refine Nat.le_antisymm (by omega) ?_
    have hnd : ((rgI m.nx.length).map m.T.f).Nodup := by
      have h0 := oI m.nx.length
      refine List.pairwise_map.2 (List.Pairwise.imp_of_mem (fun {a b} ha hb hne e => hne ?_) h0)
      have ra := ik.1 ha
      have rb := ik.1 hb
      have he := (mb ht (s := a) (t := b) (by omega) (by omega) (by omega) (by omega)).1 e
      have ga : m.reach.getD a.toNat 0 ∈ m.reach := bh (by omega)
      have gb : m.reach.getD b.toNat 0 ∈ m.reach := bh (by omega)
      have ia := na hm (i := a.toNat) (by omega)
      have ib := na hm (i := b.toNat) (by omega)
      have he2 : EQV m (m.reach.getD a.toNat 0) (m.reach.getD b.toNat 0) := fun w hw => by
        rw [← (uQ hm ga w hw).2.2, ← (uQ hm gb w hw).2.2, ia, ib]
        rw [show ((a.toNat : Nat) : Int) = a by omega, show ((b.toNat : Nat) : Int) = b by omega]
        exact he w hw
      have r1 := hR.rng _ ga
      have r2 := hR.rng _ gb
      have := h.ds _ _ r1.1 r1.2 r2.1 r2.2 he2
      have := iI hR.nd (by omega) (by omega) this
      omega
    have := fm m.T.reps.length _ hnd (fun x hx => by
      obtain ⟨y, hy, rfl⟩ := List.mem_map.1 hx
      have ry := ik.1 hy
      exact mO ht (by omega) (by omega))
    rw [aD, dk] at this
    exact this
theorem xd {m : Mly} {P : Int → Prop} (hc : ∀ x, P x → ∀ y, y ∈ m.row x → P y) : ∀ (f i : Nat) (l : List Int), (∀ x, x ∈ l → P x) → ∀ x, x ∈ m.rf f i l → P x
  | 0, _, _, h => h
  | f + 1, i, l, h => by
    intro x hx
    rw [Mly.rf] at hx
    split at hx
    · rename_i hi
      refine xd hc f (i + 1) _ (fun y hy => ?_) x hx
      rcases gH.1 hy with h1 | h1
      · exact h y h1
      · exact hc _ (h _ (bh hi)) y h1
    · exact h x hx
theorem rQ {m : Mly} (hm : MOK m) {s t : Nat} (hs : s < m.nx.length) (ht : t < m.nx.length) : ∀ (d j : Nat), (m.cls (j + d)).getD s 0 = (m.cls (j + d)).getD t 0 → (m.cls j).getD s 0 = (m.cls j).getD t 0
  | 0, _, h => h
  | d + 1, j, h => rQ hm hs ht d j (j4 hm (j + d) s t hs ht h)
theorem uC {m : Mly} (hm : MOK m) {s t : Int} (s0 : 0 ≤ s) (s1 : s < m.nx.length) (t0 : 0 ≤ t) (t1 : t < m.nx.length) : cAt m s = cAt m t ↔ EQV m s t := by
  constructor
  · intro h
    refine (mb hm s0 s1 t0 t1).1 ?_
    obtain ⟨j, h1, h2, _⟩ := kD hm
    rw [h1]
    refine rQ hm (by omega) (by omega) (m.nx.length - j) j ?_
    rw [show j + (m.nx.length - j) = m.nx.length by omega]
    exact h
  · intro h
    exact qF hm m.nx.length s.toNat t.toNat (by omega) (by omega) (by rw [Int.toNat_of_nonneg s0, Int.toNat_of_nonneg t0]; exact h)
theorem yV {m : Mly} (O : List Int) (t : Int) : ∃ o, o ∈ mmA m O t ∧ cAt m o = cAt m t := by
  unfold mmA
  split
  · exact ⟨t, by simp, rfl⟩
  · rename_i hn
    rcases lR (m := m) (c := cAt m t) O 0 with ⟨h1, _⟩ | ⟨_, _, o, h2, h3⟩
    · unfold nmO at hn; omega
    · exact ⟨o, h2, h3⟩
theorem zI {m : Mly} {O : List Int} {t x : Int} (h : x ∈ mmA m O t) : x ∈ O ∨ x = t := by
  unfold mmA at h
  split at h
  · rcases List.mem_append.1 h with h | h
    · exact .inl h
    · exact .inr (List.mem_singleton.1 h)
  · exact .inl h
theorem uJ {m : Mly} {O : List Int} {t x : Int} (h : x ∈ O) : x ∈ mmA m O t := by
  unfold mmA; split
  · exact List.mem_append_left _ h
  · exact h
theorem zb {m : Mly} (hm : MOK m) {x : Int} (hx : 0 ≤ x ∧ x < m.nx.length) {a : Nat} (ha : (a : Int) < m.inp) : m.nxt x a ∈ m.row x := by
  have := hm.rl x.toNat (by omega)
  exact bh (by unfold Mly.row; omega)
theorem sD {m : Mly} (hm : MOK m) {x : Int} (hx : 0 ≤ x ∧ x < m.nx.length) (hr : x ∈ m.reach) {O : List Int} (hO : ∀ o ∈ O, o ∈ m.reach) : ∀ k : Nat, (k : Int) ≤ m.inp →
    (∀ o ∈ (cZ m x O k).1, o ∈ m.reach) ∧ (∀ o ∈ O, o ∈ (cZ m x O k).1) ∧ ∀ a : Nat, a < k → ∃ o, o ∈ (cZ m x O k).1 ∧ cAt m o = cAt m (m.nxt x a)
  | 0, _ => ⟨hO, fun o h => h, fun a h => by omega⟩
  | k + 1, hk => by
    obtain ⟨h1, h2, h3⟩ := sD hm hx hr hO k (by omega)
    rw [fZ]
    refine ⟨fun o ho => ?_, fun o ho => uJ (h2 o ho), fun a ha => ?_⟩
    · rcases zI ho with h | h
      · exact h1 o h
      · rw [h]; exact fI hm hr (zb hm hx (by omega))
    · by_cases e : a = k
      · rw [e]; exact yV _ _
      · obtain ⟨o, h4, h5⟩ := h3 a (by omega)
        exact ⟨o, uJ h4, h5⟩
structure MMI (m : Mly) (i : Nat) (p : List Int × List (List Int)) : Prop where
  mo : MO m p.1
  rc : ∀ o ∈ p.1, o ∈ m.reach
  st : m.st ∈ p.1
  ln : p.2.length = i
  le : i ≤ p.1.length
  cl : ∀ j, j < i → ∀ a : Nat, (a : Int) < m.inp → ∃ o, o ∈ p.1 ∧ cAt m o = cAt m (m.nxt (p.1.getD j 0) a)
theorem ss {m : Mly} (hm : MOK m) : ∀ (f i : Nat) (p : List Int × List (List Int)), m.nx.length < f + i → MMI m i p → MMI m (nI m f i p).1.length (nI m f i p)
  | 0, i, p, h, hI => by
    have := hI.mo.len; have := hI.le; omega
  | f + 1, i, p, h, hI => by
    by_cases e : i < p.1.length
    · rw [pr e]
      have hx := hI.mo.rng _ (bh e)
      have hi := hm.i1
      obtain ⟨r1, r2, r, r3⟩ := kB hm hx hI.mo m.inp.toNat (by omega)
      obtain ⟨s1, s2, s3⟩ := sD hm hx (hI.rc _ (bh e)) hI.rc m.inp.toNat (by omega)
      refine ss hm f (i + 1) _ (by omega) ⟨r1, s1, s2 _ hI.st, by simp [hI.ln], ?_, fun j hj a ha => ?_⟩
      · show i + 1 ≤ (cZ m (p.1.getD i 0) p.1 m.inp.toNat).1.length
        rw [r3, aq]; omega
      · have hg : (cZ m (p.1.getD i 0) p.1 m.inp.toNat).1.getD j 0 = p.1.getD j 0 := by rw [r3, lH (by omega)]
        show ∃ o, o ∈ (cZ m (p.1.getD i 0) p.1 m.inp.toNat).1 ∧ cAt m o = cAt m (m.nxt ((cZ m (p.1.getD i 0) p.1 m.inp.toNat).1.getD j 0) a)
        rw [hg]
        by_cases e2 : j = i
        · rw [e2]; exact s3 a (by omega)
        · obtain ⟨o, h1, h2⟩ := hI.cl j (by omega) a ha
          exact ⟨o, s2 o h1, h2⟩
    · rw [r7 e]
      have : i = p.1.length := by have := hI.le; omega
      rw [← this]; exact hI
theorem zK {m : Mly} (hm : MOK m) : MMI m (mmF m).1.length (mmF m) := by
  have hs1 := hm.s1; have hs2 := hm.s2
  refine ss hm _ _ _ (by omega) ⟨⟨fun o ho => ?_, List.pairwise_singleton _ _⟩, fun o ho => ?_, by simp, rfl, Nat.zero_le _, fun j hj => by omega⟩
  · rw [List.mem_singleton] at ho; rw [ho]; exact ⟨hs1, hs2⟩
  · rw [List.mem_singleton] at ho; rw [ho]
    obtain ⟨k, hk⟩ := jc hm
    rw [hk]; exact aO ..
theorem zp {m : Mly} (hv : aR m = 0) : mmB m = true ↔ MIN12 m := by
  have hm := fc hv
  have hI := zK hm
  unfold mmB
  rw [decide_eq_true hv, Bool.true_and, decide_eq_true_eq, hI.ln]
  constructor
  · intro h1
    have hall : ∀ s : Int, 0 ≤ s → s < m.nx.length → s ∈ (mmF m).1 := fun s h0 h2 => uv hI.mo.nd hI.mo.rng h1 h0 h2
    refine ⟨fun s h0 h2 => hI.rc s (hall s h0 h2), fun s t s0 s1 t0 t1 he => ?_⟩
    have hc := (uC hm s0 s1 t0 t1).2 he
    obtain ⟨i, hi, ei⟩ := gq (hall s s0 s1)
    obtain ⟨j, hj, ej⟩ := gq (hall t t0 t1)
    have gi : (mmF m).1.getD i 0 = (mmF m).1[i] := by simp [List.getD, hi]
    have gj : (mmF m).1.getD j 0 = (mmF m).1[j] := by simp [List.getD, hj]
    rcases Nat.lt_trichotomy i j with h | h | h
    · exact absurd (by rw [← gi, ← gj, ei, ej]; exact hc) (List.pairwise_iff_getElem.1 hI.mo.cd i j hi hj h)
    · subst h; rw [← ei, ← ej]
    · exact absurd (by rw [← gi, ← gj, ei, ej]; exact hc.symm) (List.pairwise_iff_getElem.1 hI.mo.cd j i hj hi h)
  · intro h
    refine Nat.le_antisymm hI.mo.len (rI fun s h0 h1 => ?_)
    have hs := h.rc s h0 h1
    rw [dY hv] at hs
    refine xd (P := fun x => x ∈ (mmF m).1) (fun x hx y hy => ?_) _ _ _ (fun x hx => ?_) s hs
    · obtain ⟨j, hj, ej⟩ := gq hx
      have rx := hI.mo.rng x hx
      obtain ⟨a, ha, ea⟩ := gq hy
      have hrl := hm.rl x.toNat (by omega)
      obtain ⟨o, o1, o2⟩ := hI.cl j hj a (by unfold Mly.row at ha; omega)
      rw [ej] at o2
      have ro := hI.mo.rng o o1
      have e2 : m.nxt x a = y := by rw [← ea]; rfl
      rw [e2] at o2
      have ry := gX hm (s := x) (by omega) (by omega) y hy
      have := h.ds _ _ ro.1 ro.2 ry.1 ry.2 ((uC hm ro.1 ro.2 ry.1 ry.2).1 o2)
      rw [← this]; exact o1
    · rw [List.mem_singleton] at hx; rw [hx]; exact hI.st
theorem zU {m : Mly} : mnB m = mmB m := by
  by_cases hv : aR m = 0
  · rw [Bool.eq_iff_iff, Ag hv, zp hv]
  · unfold mnB mmB; rw [decide_eq_false hv]; rfl
theorem yw (m : Mly) : dT m = eK m := by unfold dT eK; rw [zU]
/-plain-/
theorem sV {xs : List Int} {j : Nat} (h : j < xs.length) : xs.getD j 0 = xs[j] := by simp [List.getD, h]
def kTo (K : List dD) (o : Int) : Int := match K.find? (fun k => decide (k.1 = o)) with | some k => k.2.1 | none => 0
def wdG (m : Mly) (T : List aX) : Nat → Nat → Int → List Int × Nat
  | 0, p, _ => ([], p)
  | f + 1, p, s => if (T.getD p nd0).2.1 < 0 then ([], p) else
    ((T.getD p nd0).2.1 :: (wdG m T f (kTo (T.getD p nd0).2.2.1 (m.out s (T.getD p nd0).2.1)).toNat (m.nxt s (T.getD p nd0).2.1)).1, (wdG m T f (kTo (T.getD p nd0).2.2.1 (m.out s (T.getD p nd0).2.1)).toNat (m.nxt s (T.getD p nd0).2.1)).2)
theorem vx {m : Mly} {T : List aX} {f p : Nat} {s : Int} (h : (T.getD p nd0).2.1 < 0) : wdG m T f p s = ([], p) := by
  cases f with
  | zero => rfl
  | succ f => exact if_pos h
theorem wN {m : Mly} {T : List aX} {f p : Nat} {s : Int} (h : ¬ (T.getD p nd0).2.1 < 0) : wdG m T (f + 1) p s =
    ((T.getD p nd0).2.1 :: (wdG m T f (kTo (T.getD p nd0).2.2.1 (m.out s (T.getD p nd0).2.1)).toNat (m.nxt s (T.getD p nd0).2.1)).1, (wdG m T f (kTo (T.getD p nd0).2.2.1 (m.out s (T.getD p nd0).2.1)).toNat (m.nxt s (T.getD p nd0).2.1)).2) := if_neg h
theorem sX : ∀ {K : List dD} {i : Nat} {o : Int}, i < K.length → (K.getD i kd0).1 = o → (∀ j, j < i → (K.getD j kd0).1 ≠ o) → kTo K o = (K.getD i kd0).2.1
  | k :: K, 0, o, _, h, _ => by
    have h' : k.1 = o := h
    unfold kTo; rw [List.find?_cons, decide_eq_true h']; rfl
  | k :: K, i + 1, o, hi, h, hn => by
    have h0 : ¬ k.1 = o := hn 0 (by omega)
    have ih := sX (K := K) (i := i) (o := o) (by simpa using hi) (by simpa [List.getD] using h) (fun j hj => by have := hn (j + 1) (by omega); simpa [List.getD] using this)
    unfold kTo at ih ⊢
    rw [List.find?_cons, decide_eq_false h0]
    simpa [List.getD] using ih
  | [], _, _, h, _, _ => by simp at h
structure RTI (m : Mly) (T : List aX) (p : Nat) (s : Int) : Prop where
  ex : ∃ f ini cur n, rtF m T f p ini cur = some n ∧ s ∈ cur ∧ cO m cur
theorem sJ {m : Mly} {T : List aX} {rec : Nat → List Int → List Int → Option Nat} (hr : ∀ e i c n, rec e i c = some n → e < n ∧ n ≤ T.length) {ini cur : List Int} {x : aX} {p : Nat} : ∀ (k n : Nat), (List.range k).foldl (fE m rec ini cur x) (some (p + 1)) = some n →
    (p + 1 ≤ n) ∧ ∀ i, i < k → ∃ e n2, p + 1 ≤ e ∧ (x.2.2.1.getD i kd0).1 = (aA (ouL m cur x.2.1)).getD i 0 ∧ (x.2.2.1.getD i kd0).2.1 = (e : Int) ∧ rec e (bU m ini cur x.2.1 cur.length ((aA (ouL m cur x.2.1)).getD i 0)) (bE m cur x.2.1 cur.length ((aA (ouL m cur x.2.1)).getD i 0)) = some n2
  | 0, n, h => by
    simp only [List.range_zero, List.foldl_nil, Option.some.injEq] at h
    exact ⟨by omega, fun i hi => by omega⟩
  | k + 1, n, h => by
    rw [List.range_succ, List.foldl_append, List.foldl_cons, List.foldl_nil] at h
    cases h1 : (List.range k).foldl (fE m rec ini cur x) (some (p + 1)) with
    | none => rw [h1] at h; cases h
    | some e =>
      rw [h1] at h
      obtain ⟨h2, h3⟩ := sJ hr k e h1
      by_cases hk : (x.2.2.1.getD k kd0).1 = (aA (ouL m cur x.2.1)).getD k 0 ∧ (x.2.2.1.getD k kd0).2.1 = (e : Int)
      · rw [ni hk] at h
        have h4 := hr _ _ _ _ h
        refine ⟨by omega, fun i hi => ?_⟩
        by_cases e9 : i = k
        · subst e9; exact ⟨e, n, h2, hk.1, hk.2, h⟩
        · exact h3 i (by omega)
      · rw [vp hk] at h; cases h
theorem yU {m : Mly} {T : List aX} {f p n : Nat} {ini cur : List Int} (h : rtF m T (f + 1) p ini cur = some n) : (p < T.length ∧ (T.getD p nd0).1 = ini ∧ cur.Nodup) ∧
    (((T.getD p nd0).2.1 = -1 ∧ (T.getD p nd0).2.2.1.length = 0 ∧ n = p + 1) ∨
     (0 ≤ (T.getD p nd0).2.1 ∧ (T.getD p nd0).2.1 < m.inp ∧ (aA (ouL m cur (T.getD p nd0).2.1)).length = (T.getD p nd0).2.2.1.length ∧ (List.range (T.getD p nd0).2.2.1.length).foldl (fE m (rtF m T f) ini cur (T.getD p nd0)) (some (p + 1)) = some n)) := by
  by_cases h1 : p < T.length ∧ (T.getD p nd0).1 = ini ∧ cur.Nodup
  · refine ⟨h1, ?_⟩
    by_cases h2 : (T.getD p nd0).2.1 = -1
    · rw [dF h1 h2] at h
      by_cases h3 : (T.getD p nd0).2.2.1.length = 0
      · rw [if_pos h3] at h; cases h; exact .inl ⟨h2, h3, rfl⟩
      · rw [if_neg h3] at h; cases h
    · by_cases h3 : 0 ≤ (T.getD p nd0).2.1 ∧ (T.getD p nd0).2.1 < m.inp ∧ (aA (ouL m cur (T.getD p nd0).2.1)).length = (T.getD p nd0).2.2.1.length
      · rw [mU h1 h2 h3] at h
        exact .inr ⟨h3.1, h3.2.1, h3.2.2, h⟩
      · rw [pZ h2 h3] at h; cases h
  · rw [oB h1] at h; cases h
theorem zw {m : Mly} {cur : List Int} {a s : Int} (h : s ∈ cur) : m.nxt s a ∈ bE m cur a cur.length (m.out s a) := by
  obtain ⟨q, hq, rfl⟩ := kJ.1 h
  unfold bE cr pkL
  rw [List.map_map]
  exact List.mem_map.2 ⟨(q : Int), jX.2 ⟨q, hq, rfl, rfl⟩, by simp⟩
theorem A8 {m : Mly} (hm : MOK m) {T : List aX} {p : Nat} {s : Int} (h : RTI m T p s) (h0 : ¬ (T.getD p nd0).2.1 < 0) : p < T.length ∧ (0 ≤ s ∧ s < m.nx.length) ∧ (0 ≤ (T.getD p nd0).2.1 ∧ (T.getD p nd0).2.1 < m.inp) ∧
    ∃ i, i < (T.getD p nd0).2.2.1.length ∧ ((T.getD p nd0).2.2.1.getD i kd0).1 = m.out s (T.getD p nd0).2.1 ∧ (∀ j, j < (T.getD p nd0).2.2.1.length → ((T.getD p nd0).2.2.1.getD j kd0).1 = m.out s (T.getD p nd0).2.1 → j = i) ∧
      (p : Int) < ((T.getD p nd0).2.2.1.getD i kd0).2.1 ∧ ((T.getD p nd0).2.2.1.getD i kd0).2.1 < T.length ∧ RTI m T ((T.getD p nd0).2.2.1.getD i kd0).2.1.toNat (m.nxt s (T.getD p nd0).2.1) := by
  obtain ⟨f, ini, cur, n, hr, hs, hst⟩ := h.ex
  cases f with
  | zero => cases hr
  | succ f =>
    obtain ⟨hn, hk⟩ := yU hr
    refine ⟨hn.1, hst s hs, ?_⟩
    rcases hk with ⟨h1, _⟩ | ⟨h1, h2, h3, h4⟩
    · omega
    · refine ⟨⟨h1, h2⟩, ?_⟩
      obtain ⟨_, hall⟩ := sJ (fun e i c n h => kt h) _ _ h4
      have hin : m.out s (T.getD p nd0).2.1 ∈ aA (ouL m cur (T.getD p nd0).2.1) := ((du _).2 _).2 (List.mem_map.2 ⟨s, hs, rfl⟩)
      have hpl := i8 hin
      have hgp := lN hin
      refine ⟨pos (aA (ouL m cur (T.getD p nd0).2.1)) (m.out s (T.getD p nd0).2.1), by omega, ?_, ?_, ?_⟩
      · obtain ⟨e, n2, _, h5, _⟩ := hall _ (by omega : pos (aA (ouL m cur (T.getD p nd0).2.1)) (m.out s (T.getD p nd0).2.1) < (T.getD p nd0).2.2.1.length)
        rw [h5]; exact hgp
      · intro j hj he
        obtain ⟨e, n2, _, h5, _⟩ := hall j hj
        rw [h5] at he
        have hso := (du (ouL m cur (T.getD p nd0).2.1)).1
        have e1 : (aA (ouL m cur (T.getD p nd0).2.1)).getD j 0 = (aA (ouL m cur (T.getD p nd0).2.1))[j]'(by omega) := sV (by omega)
        have e2 : (aA (ouL m cur (T.getD p nd0).2.1)).getD (pos (aA (ouL m cur (T.getD p nd0).2.1)) (m.out s (T.getD p nd0).2.1)) 0 = (aA (ouL m cur (T.getD p nd0).2.1))[pos (aA (ouL m cur (T.getD p nd0).2.1)) (m.out s (T.getD p nd0).2.1)]'hpl := sV hpl
        rcases Nat.lt_trichotomy j (pos (aA (ouL m cur (T.getD p nd0).2.1)) (m.out s (T.getD p nd0).2.1)) with h6 | h6 | h6
        · have := List.pairwise_iff_getElem.1 hso _ _ (by omega) hpl h6
          omega
        · exact h6
        · have := List.pairwise_iff_getElem.1 hso _ _ hpl (by omega) h6
          omega
      · obtain ⟨e, n2, h6, h5, h7, h8⟩ := hall _ (by omega : pos (aA (ouL m cur (T.getD p nd0).2.1)) (m.out s (T.getD p nd0).2.1) < (T.getD p nd0).2.2.1.length)
        have h9 := kt h8
        refine ⟨by omega, by omega, ?_⟩
        rw [h7, ah]
        rw [hgp] at h8
        exact ⟨f, _, _, n2, h8, zw hs, lL hm ⟨h1, h2⟩ hst⟩
def jn (m : Mly) (T : List aX) (s : Int) : List Int × Nat := wdG m T T.length 0 s
def iA (m : Mly) (T : List aX) (s : Int) : Int := if ¬ fC m T = 0 then fC m T else if s < 0 ∨ (m.nx.length : Int) ≤ s then 2 else 0
theorem AD {m : Mly} {T : List aX} (h : fC m T = 0) : aR m = 0 ∧ T.length ≤ 4096 ∧ rtF m T (T.length + 1) 0 (rgI m.nx.length) (rgI m.nx.length) = some T.length := by
  unfold fC at h
  by_cases h1 : dT m = 0
  · rw [if_neg (fun h => h h1)] at h
    by_cases h2 : 4096 < T.length ∨ ¬ rtF m T (T.length + 1) 0 (rgI m.nx.length) (rgI m.nx.length) = some T.length
    · rw [if_pos h2] at h; cases h
    · refine ⟨tG h1, by omega, ?_⟩
      exact Classical.byContradiction fun h3 => h2 (.inr h3)
  · rw [if_pos h1] at h; exact absurd h h1
theorem y0 {m : Mly} {T : List aX} {s : Int} (h : rtF m T (T.length + 1) 0 (rgI m.nx.length) (rgI m.nx.length) = some T.length) (hs : 0 ≤ s ∧ s < m.nx.length) : RTI m T 0 s :=
  ⟨_, _, _, _, h, List.mem_map.2 ⟨s.toNat, List.mem_range.2 (by omega), by omega⟩, m9 m⟩
theorem AK {m : Mly} {T : List aX} {p : Nat} {s : Int} (h : RTI m T p s) : p < T.length := by
  obtain ⟨f, ini, cur, n, hr, _⟩ := h.ex
  have := kt hr; omega
theorem zL {m : Mly} {T : List aX} {f p : Nat} {s t : Int} {W : List Int} {i : Nat} (h0 : ¬ (T.getD p nd0).2.1 < 0) (hi : i < (T.getD p nd0).2.2.1.length) (h1 : ((T.getD p nd0).2.2.1.getD i kd0).1 = m.out s (T.getD p nd0).2.1) (h2 : ∀ j, j < (T.getD p nd0).2.2.1.length → ((T.getD p nd0).2.2.1.getD j kd0).1 = m.out s (T.getD p nd0).2.1 → j = i)
    (h : (W ++ (wdG m T (f + 1) p s).1, (wdG m T (f + 1) p s).2) = jn m T t) : ((W ++ [(T.getD p nd0).2.1]) ++ (wdG m T f ((T.getD p nd0).2.2.1.getD i kd0).2.1.toNat (m.nxt s (T.getD p nd0).2.1)).1, (wdG m T f ((T.getD p nd0).2.2.1.getD i kd0).2.1.toNat (m.nxt s (T.getD p nd0).2.1)).2) = jn m T t := by
  rw [← h, wN h0, sX hi h1 (fun j hj e => by have := h2 j (by omega) e; omega)]
  simp
/-plain-/
def mF1 (Q : List SS) : List (List Int) := Q.map Prod.fst
theorem bB (Q : List SS) : (mF1 Q).length = Q.length := aD ..
theorem xe {Q : List SS} {k : Nat} (h : k < Q.length) (d : List Int) : (mF1 Q).getD k d = (Q.getD k ss0).1 := by
  unfold mF1; simp [List.getD, h]
theorem mK (Q : List SS) (s : SS) : mF1 (Q ++ [s]) = mF1 Q ++ [s.1] := by unfold mF1; rw [List.map_append]; rfl
def knB (Q : List SS) (x : List Int) (j : Nat) : Bool := (List.range j).any fun q => decide ((Q.getD q ss0).1 = x)
theorem xu (Q : List SS) (x : List Int) (j : Nat) : knB Q x (j + 1) = (knB Q x j || decide ((Q.getD j ss0).1 = x)) := by
  unfold knB; rw [List.range_succ, List.any_append]; simp
theorem qR {Q : List SS} {x : List Int} (h : dS Q x < Q.length) : (Q.getD (dS Q x) ss0).1 = x := by
  induction Q with
  | nil => simp [dS] at h
  | cons s Q ih =>
    by_cases e : s.1 = x
    · have p1 : dS (s :: Q) x = 0 := if_pos e
      rw [p1]; exact e
    · have p1 : dS (s :: Q) x = dS Q x + 1 := if_neg e
      rw [p1] at h ⊢
      exact ih (by simpa using h)
theorem qj (Q : List SS) (x : List Int) : knB Q x Q.length = decide (dS Q x < Q.length) := by
  by_cases e : dS Q x < Q.length
  · rw [decide_eq_true e]
    exact List.any_eq_true.2 ⟨_, List.mem_range.2 e, by rw [decide_eq_true_eq]; exact qR e⟩
  · rw [decide_eq_false e]
    unfold knB
    rw [List.any_eq_false]
    intro q hq hb
    have hq2 := List.mem_range.1 hq
    rw [decide_eq_true_eq] at hb
    have : ¬ ∀ j, j < Q.length → (Q.getD j ss0).1 ≠ x := fun h => h q hq2 hb
    apply e
    have hle := ul Q x
    by_cases e3 : dS Q x = Q.length
    · exfalso
      have key : ∀ (Q : List SS) (q : Nat), q < Q.length → (Q.getD q ss0).1 = x → dS Q x ≤ q := by
        intro Q
        induction Q with
        | nil => intro q h; simp at h
        | cons s Q ih =>
          intro q h hb
          by_cases e : s.1 = x
          · have p1 : dS (s :: Q) x = 0 := if_pos e
            omega
          · have p1 : dS (s :: Q) x = dS Q x + 1 := if_neg e
            match q, h, hb with
            | 0, _, hb => exact absurd (by simpa using hb) e
            | q + 1, h, hb =>
              have := ih q (by simpa using h) (by simpa using hb)
              omega
      have := key Q q hq2 hb
      omega
    · omega
theorem wY {m : Mly} {l : List Int} {a : Int} : (1 < (aA (ouL m l a)).length) ↔ smO m l a l.length = false := by
  have hor := (du (ouL m l a)).1
  have hmem := (du (ouL m l a)).2
  have hin : ∀ k, k < l.length → m.out (l.getD k 0) a ∈ aA (ouL m l a) := fun k hk => (hmem _).2 (List.mem_map.2 ⟨_, bh hk, rfl⟩)
  constructor
  · intro hl
    cases hs : smO m l a l.length with
    | false => rfl
    | true =>
      exfalso
      have hall : ∀ y, y ∈ aA (ouL m l a) → y = m.out (l.getD 0 0) a := fun y hy => by
        obtain ⟨x, hx, rfl⟩ := List.mem_map.1 ((hmem y).1 hy)
        obtain ⟨k, hk, rfl⟩ := kJ.1 hx
        unfold smO at hs
        have := List.all_eq_true.1 hs k (List.mem_range.2 hk)
        simpa using this
      have h1 := List.pairwise_iff_getElem.1 hor 0 1 (by omega) hl (by omega)
      have h2 := hall _ (List.getElem_mem (show 0 < (aA (ouL m l a)).length by omega))
      have h3 := hall _ (List.getElem_mem hl)
      omega
  · intro hs
    unfold smO at hs
    rw [List.all_eq_false] at hs
    obtain ⟨k, hk, hne⟩ := hs
    have hk2 := List.mem_range.1 hk
    have hne2 : ¬ m.out (l.getD k 0) a = m.out (l.getD 0 0) a := by simpa using hne
    have g1 := hin k hk2
    have g2 := hin 0 (by omega)
    rcases hu : aA (ouL m l a) with _ | ⟨y, _ | ⟨z, r⟩⟩
    · rw [hu] at g1; cases g1
    · rw [hu, List.mem_singleton] at g1 g2
      exact absurd (g1.trans g2.symm) hne2
    · simp
/-plain-/
def dJ (m : Mly) : List Int → List Int → List Int
  | l, [] => l
  | l, a :: w => dJ m (cr m l a) w
def chW (m : Mly) : List Int → List Int → Prop
  | _, [] => True
  | l, a :: w => (unS m l a l.length = false ∧ smO m l a l.length = true) ∧ chW m (cr m l a) w
def spW (m : Mly) (l w : List Int) : Prop := ∃ v a, w = v ++ [a] ∧ chW m l v ∧ unS m (dJ m l v) a (dJ m l v).length = false ∧ smO m (dJ m l v) a (dJ m l v).length = false
theorem gN {m : Mly} : ∀ {v w l : List Int}, dJ m l (v ++ w) = dJ m (dJ m l v) w
  | [], _, _ => rfl
  | _ :: v, w, _ => gN (v := v) (w := w)
theorem ir {m : Mly} : ∀ {v w l : List Int}, chW m l (v ++ w) ↔ chW m l v ∧ chW m (dJ m l v) w
  | [], _, _ => ⟨fun h => ⟨trivial, h⟩, fun h => h.2⟩
  | a :: v, w, l => by
    have ih := ir (m := m) (v := v) (w := w) (l := cr m l a)
    constructor
    · rintro ⟨h1, h2⟩; have h3 := ih.1 h2; exact ⟨⟨h1, h3.1⟩, h3.2⟩
    · rintro ⟨⟨h1, h2⟩, h3⟩; exact ⟨h1, ih.2 ⟨h2, h3⟩⟩
theorem rm (m : Mly) (l : List Int) (a : Int) : dJ m l [a] = cr m l a := rfl
theorem th {m : Mly} {l w : List Int} (h : spW m l w) : w ≠ [] := by
  obtain ⟨v, a, rfl, _⟩ := h; simp
theorem mX {m : Mly} {l w : List Int} {a : Int} : spW m l (a :: w) ↔ unS m l a l.length = false ∧ ((w = [] ∧ smO m l a l.length = false) ∨ (smO m l a l.length = true ∧ spW m (cr m l a) w)) := by
  constructor
  · rintro ⟨v, b, e, h1, h2, h3⟩
    cases v with
    | nil =>
      simp only [aZ, List.cons.injEq] at e
      obtain ⟨rfl, rfl⟩ := e
      exact ⟨h2, .inl ⟨rfl, h3⟩⟩
    | cons c v =>
      simp only [aH, List.cons.injEq] at e
      obtain ⟨rfl, rfl⟩ := e
      exact ⟨h1.1.1, .inr ⟨h1.1.2, v, b, rfl, h1.2, h2, h3⟩⟩
  · rintro ⟨h1, ⟨rfl, h2⟩ | ⟨h2, v, b, rfl, h3, h4, h5⟩⟩
    · exact ⟨[], a, rfl, trivial, h1, h2⟩
    · exact ⟨a :: v, b, rfl, ⟨⟨h1, h2⟩, h3⟩, h4, h5⟩
theorem gy {Q : List SS} {s : SS} {i : Nat} (h : i < Q.length) : (Q ++ [s]).getD i ss0 = Q.getD i ss0 := by simp [List.getD, List.getElem?_append_left h]
theorem lr {Q : List SS} {s : SS} : (Q ++ [s]).getD Q.length ss0 = s := by simp [List.getD]
theorem jv {Q : List SS} {s : SS} : (Q ++ [s]).length = Q.length + 1 := by simp
structure BFQ (m : Mly) (l : List Int) (Q : List SS) : Prop where
  rt : 0 < Q.length ∧ Q.getD 0 ss0 = (l, [])
  pt : ∀ k, k < Q.length → chW m l (Q.getD k ss0).2 ∧ (Q.getD k ss0).1 = dJ m l (Q.getD k ss0).2 ∧ dy m (Q.getD k ss0).2
  mo : ∀ j k, j ≤ k → k < Q.length → (Q.getD j ss0).2.length ≤ (Q.getD k ss0).2.length
  nd : ∀ j k, j < k → k < Q.length → (Q.getD j ss0).1 ≠ (Q.getD k ss0).1
  le : Q.length ≤ 4096
def clQ (m : Mly) (Q : List SS) (j : Nat) (b : Int) : Prop := unS m (Q.getD j ss0).1 b (Q.getD j ss0).1.length = false → smO m (Q.getD j ss0).1 b (Q.getD j ss0).1.length = true ∧ ∃ k, k < Q.length ∧ (Q.getD k ss0).1 = cr m (Q.getD j ss0).1 b ∧ (Q.getD k ss0).2.length ≤ (Q.getD j ss0).2.length + 1
structure BFI (m : Mly) (l : List Int) (i a : Nat) (Q : List SS) : Prop where
  q : BFQ m l Q
  cl : ∀ j, j < i → ∀ b : Nat, b < m.inp.toNat → clQ m Q j b
  pc : ∀ b : Nat, b < a → clQ m Q i b
  up : ∀ k, k < Q.length → i < Q.length → (Q.getD k ss0).2.length ≤ (Q.getD i ss0).2.length + 1
theorem rB {m : Mly} {Q : List SS} {s : SS} {j : Nat} {b : Int} (hj : j < Q.length) (h : clQ m Q j b) : clQ m (Q ++ [s]) j b := by
  unfold clQ at h ⊢
  rw [gy hj]
  intro h1
  obtain ⟨h2, k, h3, h4, h5⟩ := h h1
  exact ⟨h2, k, by rw [jv]; omega, by rw [gy h3]; exact h4, by rw [gy h3]; exact h5⟩
theorem tL {m : Mly} {l : List Int} {Q : List SS} (hq : BFQ m l Q) {D : Nat} (hc : ∀ j, j < Q.length → (Q.getD j ss0).2.length < D → ∀ b : Nat, b < m.inp.toNat → clQ m Q j b) :
    ∀ (n : Nat) (v : List Int), v.length = n → n ≤ D → dy m v → chW m l v → ∃ j, j < Q.length ∧ (Q.getD j ss0).1 = dJ m l v ∧ (Q.getD j ss0).2.length ≤ n
  | 0, v, hv, _, _, _ => by
    have : v = [] := List.eq_nil_of_length_eq_zero hv
    subst this
    refine ⟨0, hq.rt.1, ?_, ?_⟩
    · rw [hq.rt.2]; rfl
    · rw [hq.rt.2]; exact Nat.le_refl _
  | n + 1, v, hv, hn, hw, hch => by
    have hne : v ≠ [] := fun e => by rw [e] at hv; cases hv
    obtain ⟨u, b, rfl⟩ : ∃ u b, v = u ++ [b] := ⟨v.dropLast, v.getLast hne, (List.dropLast_concat_getLast hne).symm⟩
    rw [aq] at hv
    simp only [au, aC] at hv
    obtain ⟨h1, h2⟩ := ir.1 hch
    have hb := hw b (by simp)
    obtain ⟨j, j1, j2, j3⟩ := tL hq hc n u (by omega) (by omega) (fun x hx => hw x (List.mem_append_left _ hx)) h1
    have hcl := hc j j1 (by omega) b.toNat (by omega)
    rw [show ((b.toNat : Nat) : Int) = b by omega] at hcl
    unfold clQ at hcl
    rw [j2] at hcl
    obtain ⟨_, k, k1, k2, k3⟩ := hcl h2.1.1
    refine ⟨k, k1, ?_, by omega⟩
    rw [k2, gN, rm]
theorem BFI.clz {m : Mly} {l : List Int} {i a : Nat} {Q : List SS} (h : BFI m l i a Q) (hi : i < Q.length) : ∀ j, j < Q.length → (Q.getD j ss0).2.length < (Q.getD i ss0).2.length → ∀ b : Nat, b < m.inp.toNat → clQ m Q j b := by
  intro j hj hl b hb
  refine h.cl j ?_ b hb
  by_cases e : j < i
  · exact e
  · have := h.q.mo i j (by omega) hj; omega
def BFT (m : Mly) (l : List Int) (i a : Nat) (t : F12) : Prop := match t.res with
  | none => BFI m l i a t.Q ∧ i < t.Q.length
  | some (some w) => spW m l w ∧ ∀ v, dy m v → spW m l v → w.length ≤ v.length
  | some none => BFQ m l t.Q ∧ 4096 ≤ t.Q.length
theorem AR {m : Mly} {l : List Int} {i a : Nat} {Q : List SS} (h : BFI m l i a Q) (hi : i < Q.length) (h1 : unS m (Q.getD i ss0).1 a (Q.getD i ss0).1.length = false) (h2 : smO m (Q.getD i ss0).1 a (Q.getD i ss0).1.length = false) :
    spW m l (dN Q i a) ∧ ∀ v, dy m v → spW m l v → (dN Q i a).length ≤ v.length := by
  obtain ⟨p1, p2, p3⟩ := h.q.pt i hi
  constructor
  · exact ⟨_, _, rfl, p1, by rw [← p2]; exact h1, by rw [← p2]; exact h2⟩
  · rintro v hv ⟨u, b, rfl, s1, s2, s3⟩
    unfold dN
    rw [aq, aq]
    simp only [au, aC]
    by_cases e : (Q.getD i ss0).2.length ≤ u.length
    · omega
    · exfalso
      have hb := hv b (by simp)
      obtain ⟨j, j1, j2, j3⟩ := tL h.q (h.clz hi) u.length u rfl (by omega) (fun x hx => hv x (List.mem_append_left _ hx)) s1
      have hcl := h.clz hi j j1 (by omega) b.toNat (by omega)
      rw [show ((b.toNat : Nat) : Int) = b by omega] at hcl
      unfold clQ at hcl
      rw [j2] at hcl
      have := (hcl s2).1
      rw [s3] at this; cases this
theorem zX {Q : List SS} {x : List Int} (h : ¬ dS Q x < Q.length) : ∀ k, k < Q.length → (Q.getD k ss0).1 ≠ x := by
  intro k hk e
  have h1 := qj Q x
  rw [decide_eq_false h] at h1
  have : knB Q x Q.length = true := List.any_eq_true.2 ⟨k, List.mem_range.2 hk, by rw [decide_eq_true_eq]; exact e⟩
  rw [h1] at this; cases this
theorem Bz {m : Mly} {l : List Int} {i a : Nat} {t : F12} (h : BFT m l i a t) (ha : a < m.inp.toNat) : BFT m l i (a + 1) (dn m i t a) := by
  obtain ⟨Q, res⟩ := t
  cases res with
  | some r =>
    have e : dn m i ⟨Q, some r⟩ a = ⟨Q, some r⟩ := rfl
    rw [e]
    cases r with
    | some w => exact h
    | none => exact h
  | none =>
    obtain ⟨hI, hi⟩ : BFI m l i a Q ∧ i < Q.length := h
    cases hu : unS m (Q.getD i ss0).1 a (Q.getD i ss0).1.length with
    | true =>
      rw [vS hu]
      refine ⟨⟨hI.q, hI.cl, fun b hb => ?_, hI.up⟩, hi⟩
      by_cases e : b = a
      · subst e; intro h1; rw [hu] at h1; cases h1
      · exact hI.pc b (by omega)
    | false =>
      cases hs : smO m (Q.getD i ss0).1 a (Q.getD i ss0).1.length with
      | false => rw [t9 hu hs]; exact AR hI hi hu hs
      | true =>
        by_cases h3 : dS Q (eD m Q i a) < Q.length
        · rw [sY hu hs h3]
          refine ⟨⟨hI.q, hI.cl, fun b hb => ?_, hI.up⟩, hi⟩
          by_cases e : b = a
          · subst e
            intro _
            exact ⟨hs, _, h3, qR h3, hI.up _ h3 hi⟩
          · exact hI.pc b (by omega)
        · by_cases h4 : 4096 ≤ Q.length
          · rw [tH hu hs h3 h4]; exact ⟨hI.q, h4⟩
          · rw [tc hu hs h3 h4]
            obtain ⟨p1, p2, p3⟩ := hI.q.pt i hi
            have hwl : (dN Q i a).length = (Q.getD i ss0).2.length + 1 := by unfold dN; simp
            refine ⟨⟨⟨⟨by rw [jv]; omega, by rw [gy hI.q.rt.1]; exact hI.q.rt.2⟩, fun k hk => ?_, fun j k hjk hk => ?_, fun j k hjk hk => ?_, by rw [jv]; omega⟩, fun j hj b hb => rB (by omega) (hI.cl j hj b hb), fun b hb => ?_, fun k hk _ => ?_⟩, by rw [jv]; omega⟩
            · rw [jv] at hk
              by_cases e : k < Q.length
              · rw [gy e]; exact hI.q.pt k e
              · have : k = Q.length := by omega
                subst this
                rw [lr]
                refine ⟨ir.2 ⟨p1, ?_⟩, ?_, ?_⟩
                · rw [← p2]; exact ⟨⟨hu, hs⟩, trivial⟩
                · show eD m Q i a = dJ m l (dN Q i a)
                  unfold eD dN
                  rw [gN, rm, ← p2]
                · intro x hx
                  rcases List.mem_append.1 hx with h | h
                  · exact p3 x h
                  · rw [List.mem_singleton] at h; rw [h]; omega
            · rw [jv] at hk
              by_cases e : k < Q.length
              · rw [gy e, gy (by omega)]; exact hI.q.mo j k hjk e
              · have : k = Q.length := by omega
                subst this
                rw [lr]
                by_cases e2 : j < Q.length
                · rw [gy e2]
                  show _ ≤ (dN Q i a).length
                  rw [hwl]; exact hI.up j e2 hi
                · rw [show j = Q.length by omega, lr]; exact Nat.le_refl _
            · rw [jv] at hk
              by_cases e : k < Q.length
              · rw [gy e, gy (by omega)]; exact hI.q.nd j k hjk e
              · have : k = Q.length := by omega
                subst this
                rw [lr, gy hjk]
                exact zX h3 j hjk
            · by_cases e : b = a
              · subst e
                unfold clQ
                rw [gy hi]
                intro _
                refine ⟨hs, Q.length, by rw [jv]; omega, by rw [lr]; rfl, ?_⟩
                rw [lr]
                show (dN Q i b).length ≤ _
                omega
              · exact rB hi (hI.pc b (by omega))
            · rw [jv] at hk
              rw [gy hi]
              by_cases e : k < Q.length
              · rw [gy e]; exact hI.up k e hi
              · rw [show k = Q.length by omega, lr]
                show (dN Q i a).length ≤ _
                omega
theorem uO {m : Mly} {l : List Int} {i : Nat} {t : F12} (h : BFT m l i 0 t) : ∀ k, k ≤ m.inp.toNat → BFT m l i k ((List.range k).foldl (dn m i) t)
  | 0, _ => h
  | k + 1, hk => by
    rw [List.range_succ, List.foldl_append]
    exact Bz (uO h k (by omega)) (by omega)
def BFE (m : Mly) (l : List Int) (r : Option (Option (List Int))) : Prop := match r with
  | none => ∀ v, dy m v → ¬ spW m l v
  | some (some w) => spW m l w ∧ ∀ v, dy m v → spW m l v → w.length ≤ v.length
  | some none => ∃ Q, BFQ m l Q ∧ 4096 ≤ Q.length
theorem xl {m : Mly} {l : List Int} {i a : Nat} {Q : List SS} (h : BFI m l i a Q) (hi : ¬ i < Q.length) : ∀ v, dy m v → ¬ spW m l v := by
  rintro v hv ⟨u, b, rfl, s1, s2, s3⟩
  have hb := hv b (by simp)
  have hc : ∀ j, j < Q.length → (Q.getD j ss0).2.length < u.length + 1 → ∀ b : Nat, b < m.inp.toNat → clQ m Q j b := fun j hj _ b hb => h.cl j (by omega) b hb
  obtain ⟨j, j1, j2, j3⟩ := tL h.q hc u.length u rfl (by omega) (fun x hx => hv x (List.mem_append_left _ hx)) s1
  have hcl := hc j j1 (by omega) b.toNat (by omega)
  rw [show ((b.toNat : Nat) : Int) = b by omega] at hcl
  unfold clQ at hcl
  rw [j2] at hcl
  have := (hcl s2).1
  rw [s3] at this; cases this
theorem zk {m : Mly} {l : List Int} {i : Nat} {Q : List SS} (h : BFI m l i m.inp.toNat Q) (hi : i < Q.length) : BFI m l (i + 1) 0 Q := by
  refine ⟨h.q, fun j hj b hb => ?_, fun b hb => by omega, fun k hk hi2 => ?_⟩
  · by_cases e : j = i
    · rw [e]; exact h.pc b hb
    · exact h.cl j (by omega) b hb
  · have h1 := h.up k hk hi
    have h2 := h.q.mo i (i + 1) (by omega) hi2
    omega
theorem A5 {m : Mly} {l : List Int} : ∀ (f i : Nat) (Q : List SS), 4097 ≤ f + i → BFI m l i 0 Q → BFE m l (fO m f i ⟨Q, none⟩).res
  | 0, i, Q, hf, h => by
    have := h.q.le
    exact xl h (by omega)
  | f + 1, i, Q, hf, h => by
    by_cases hi : i < Q.length
    · rw [pF rfl hi]
      have h1 := uO (t := ⟨Q, none⟩) (i := i) ⟨h, hi⟩ m.inp.toNat (Nat.le_refl _)
      have e : (List.range m.inp.toNat).foldl (dn m i) ⟨Q, none⟩ = jz m i ⟨Q, none⟩ := rfl
      rw [e] at h1
      rcases hr : jz m i ⟨Q, none⟩ with ⟨Q2, r⟩
      rw [hr] at h1
      cases r with
      | none =>
        obtain ⟨h2, h3⟩ : BFI m l i m.inp.toNat Q2 ∧ i < Q2.length := h1
        exact A5 f (i + 1) Q2 (by omega) (zk h2 h3)
      | some r =>
        rw [sh (t := ⟨Q2, some r⟩) rfl]
        cases r with
        | some w => exact h1
        | none => exact ⟨Q2, h1⟩
    · rw [tZ hi]; exact xl h hi
theorem zC (m : Mly) (l : List Int) : BFE m l (lc m l) := by
  refine A5 4097 0 [(l, [])] (by omega) ⟨⟨⟨by simp, rfl⟩, fun k hk => ?_, fun j k hjk hk => ?_, fun j k hjk hk => ?_, by simp⟩, fun j hj => by omega, fun b hb => by omega, fun k hk hi => ?_⟩
  · have : k = 0 := by simpa using hk
    subst this; exact ⟨trivial, rfl, fun x hx => by cases hx⟩
  · have : k = 0 := by simpa using hk
    have : j = 0 := by omega
    subst_vars; exact Nat.le_refl _
  · have : k = 0 := by simpa using hk
    omega
  · have : k = 0 := by simpa using hk
    subst this; omega
theorem Al {m : Mly} {l w : List Int} (h : fdW m l = some w) : spW m l w ∧ ∀ v, dy m v → spW m l v → w.length ≤ v.length := by
  have hs := zC m l
  unfold fdW at h
  rcases hr : lc m l with _ | _ | w2
  · rw [hr] at h; cases h
  · rw [hr] at h; cases h
  · rw [hr] at h hs
    have : w2 = w := by simpa using h
    subst this; exact hs
/-plain-/
def nV (l k : List Int) : Prop := ∀ x, x ∈ l ↔ x ∈ k
theorem ph {m : Mly} {l : List Int} {a : Int} (hn : l.Nodup) : unS m l a l.length = true ↔ ∃ s t, s ∈ l ∧ t ∈ l ∧ s ≠ t ∧ clB m a s t = true := by
  unfold unS
  constructor
  · intro h
    obtain ⟨k, hk, h2⟩ := List.any_eq_true.1 h
    obtain ⟨j, hj, h3⟩ := List.any_eq_true.1 h2
    have hk := List.mem_range.1 hk
    have hj := List.mem_range.1 hj
    refine ⟨_, _, bh hk, bh (show j < l.length by omega), fun e => ?_, h3⟩
    have := iI hn hk (by omega) e
    omega
  · rintro ⟨s, t, hs, ht, hne, hc⟩
    obtain ⟨i, hi, rfl⟩ := gq hs
    obtain ⟨j, hj, rfl⟩ := gq ht
    rcases Nat.lt_trichotomy i j with h | h | h
    · refine List.any_eq_true.2 ⟨j, List.mem_range.2 hj, List.any_eq_true.2 ⟨i, List.mem_range.2 h, ?_⟩⟩
      unfold clB at hc ⊢
      simp only [Bool.and_eq_true, decide_eq_true_eq] at hc ⊢
      exact ⟨hc.1.symm, hc.2.symm⟩
    · subst h; exact absurd rfl hne
    · exact List.any_eq_true.2 ⟨i, List.mem_range.2 hi, List.any_eq_true.2 ⟨j, List.mem_range.2 h, hc⟩⟩
theorem uS {m : Mly} {l : List Int} {a : Int} (hn : l.Nodup) (h : unS m l a l.length = false) {s t : Int} (hs : s ∈ l) (ht : t ∈ l) (h1 : m.out s a = m.out t a) (h2 : m.nxt s a = m.nxt t a) : s = t := by
  by_cases e : s = t
  · exact e
  · have := (ph (m := m) (a := a) hn).2 ⟨s, t, hs, ht, e, by unfold clB; rw [decide_eq_true h1, decide_eq_true h2]; rfl⟩
    rw [h] at this; cases this
theorem j8 {m : Mly} {l : List Int} {a : Int} : smO m l a l.length = true ↔ ∀ s t, s ∈ l → t ∈ l → m.out s a = m.out t a := by
  unfold smO
  rw [List.all_eq_true]
  constructor
  · intro h s t hs ht
    obtain ⟨i, hi, rfl⟩ := gq hs
    obtain ⟨j, hj, rfl⟩ := gq ht
    have h1 := h i (List.mem_range.2 hi)
    have h2 := h j (List.mem_range.2 hj)
    simp only [decide_eq_true_eq] at h1 h2
    rw [h1, h2]
  · intro h k hk
    have hk := List.mem_range.1 hk
    rw [decide_eq_true_eq]
    exact h _ _ (bh hk) (bh (by omega))
theorem xo {m : Mly} {l k : List Int} {a : Int} (h : nV l k) (hl : l.Nodup) (hk : k.Nodup) : unS m l a l.length = unS m k a k.length := by
  rw [Bool.eq_iff_iff, ph hl, ph hk]
  constructor
  · rintro ⟨s, t, h1, h2, h3⟩; exact ⟨s, t, (h s).1 h1, (h t).1 h2, h3⟩
  · rintro ⟨s, t, h1, h2, h3⟩; exact ⟨s, t, (h s).2 h1, (h t).2 h2, h3⟩
theorem wE {m : Mly} {l k : List Int} {a : Int} (h : nV l k) : smO m l a l.length = smO m k a k.length := by
  rw [Bool.eq_iff_iff, j8, j8]
  constructor
  · intro g s t h1 h2; exact g s t ((h s).2 h1) ((h t).2 h2)
  · intro g s t h1 h2; exact g s t ((h s).1 h1) ((h t).1 h2)
theorem Bu {m : Mly} {l k : List Int} {a : Int} (h : nV l k) : nV (cr m l a) (cr m k a) := by
  intro x
  unfold cr
  rw [List.mem_map, List.mem_map]
  constructor
  · rintro ⟨y, h1, h2⟩; exact ⟨y, (h y).1 h1, h2⟩
  · rintro ⟨y, h1, h2⟩; exact ⟨y, (h y).2 h1, h2⟩
theorem nb {m : Mly} {l : List Int} {a : Int} (hn : l.Nodup) (h : unS m l a l.length = false) (h2 : smO m l a l.length = true) : (cr m l a).Nodup := by
  unfold cr
  refine List.pairwise_map.2 (List.Pairwise.imp_of_mem (fun {s t} hs ht hne e => hne ?_) hn)
  exact uS hn h hs ht (j8.1 h2 s t hs ht) e
theorem gP {m : Mly} : ∀ {v l : List Int}, l.Nodup → chW m l v → (dJ m l v).Nodup
  | [], _, h, _ => h
  | a :: v, l, h, hc => gP (v := v) (nb h hc.1.1 hc.1.2) hc.2
theorem oC {m : Mly} (hm : MOK m) : ∀ {v l : List Int}, dy m v → cO m l → cO m (dJ m l v)
  | [], _, _, h => h
  | a :: v, l, hw, h => oC hm (v := v) (fun x hx => hw x (aL _ hx)) (oA hm (hw a (aO ..)) h).1
theorem wo {m : Mly} : ∀ {w l k : List Int}, nV l k → l.Nodup → k.Nodup → spW m l w → spW m k w
  | [], _, _, _, _, _, h => absurd rfl (th h)
  | a :: w, l, k, h, hl, hk, hs => by
    rw [mX] at hs ⊢
    rw [← xo h hl hk, ← wE h]
    obtain ⟨h1, h2 | ⟨h2, h3⟩⟩ := hs
    · exact ⟨h1, .inl h2⟩
    · exact ⟨h1, .inr ⟨h2, wo (Bu h) (nb hl h1 h2) (nb hk (by rw [← xo h hl hk]; exact h1) (by rw [← wE h]; exact h2)) h3⟩⟩
theorem oW {m : Mly} : ∀ {v w l : List Int}, chW m l v → spW m (dJ m l v) w → spW m l (v ++ w)
  | [], _, _, _, h => h
  | a :: v, w, l, hc, h => by
    rw [aH, mX]
    exact ⟨hc.1.1, .inr ⟨hc.1.2, oW hc.2 h⟩⟩
def cdN (l : List Int) : Nat → Nat
  | 0 => 0
  | k + 1 => 2 * cdN l k + (if (k : Int) ∈ l then 1 else 0)
theorem tM (l : List Int) : ∀ k, cdN l k < 2 ^ k
  | 0 => by show 0 < 2 ^ 0; decide
  | k + 1 => by
    have := tM l k
    rw [cdN, Nat.pow_succ]
    split <;> omega
theorem p9 {l k : List Int} : ∀ n, cdN l n = cdN k n → ∀ i : Nat, i < n → ((i : Int) ∈ l ↔ (i : Int) ∈ k)
  | 0, _, i, h => by omega
  | n + 1, h, i, hi => by
    rw [cdN, cdN] at h
    have h1 : cdN l n = cdN k n := by split at h <;> split at h <;> omega
    by_cases e : i = n
    · subst e
      rw [h1] at h
      by_cases a1 : (i : Int) ∈ l
      · by_cases a2 : (i : Int) ∈ k
        · exact ⟨fun _ => a2, fun _ => a1⟩
        · rw [if_pos a1, if_neg a2] at h; omega
      · by_cases a2 : (i : Int) ∈ k
        · rw [if_neg a1, if_pos a2] at h; omega
        · exact ⟨fun h => absurd h a1, fun h => absurd h a2⟩
    · exact p9 n h1 i (by omega)
theorem wP {n : Nat} {l k : List Int} (hl : ∀ x ∈ l, 0 ≤ x ∧ x < n) (hk : ∀ x ∈ k, 0 ≤ x ∧ x < n) (h : cdN l n = cdN k n) : nV l k := by
  intro x
  constructor
  · intro hx
    have := hl x hx
    have h2 := (p9 n h x.toNat (by omega)).1
    rw [show ((x.toNat : Nat) : Int) = x by omega] at h2
    exact h2 hx
  · intro hx
    have := hk x hx
    have h2 := (p9 n h x.toNat (by omega)).2
    rw [show ((x.toNat : Nat) : Int) = x by omega] at h2
    exact h2 hx
theorem yd {m : Mly} (hm : MOK m) (hn8 : m.nx.length ≤ 8) {l w : List Int} (hn : l.Nodup) (hst : cO m l) (hw : dy m w) (h : spW m l w) (hmin : ∀ v, dy m v → spW m l v → w.length ≤ v.length) : w.length ≤ 256 := by
  obtain ⟨v, a, rfl, h1, h2, h3⟩ := h
  have hwv : dy m v := fun x hx => hw x (List.mem_append_left _ hx)
  have hsp : ∀ p, spW m (dJ m l (v.take p)) (v.drop p ++ [a]) := fun p => by
    have h1' := h1
    rw [← List.take_append_drop p v] at h1'
    have hc := (ir.1 h1').2
    refine ⟨_, _, rfl, hc, ?_, ?_⟩
    · rw [← gN, List.take_append_drop]; exact h2
    · rw [← gN, List.take_append_drop]; exact h3
  have hch : ∀ p, chW m l (v.take p) := fun p => by
    have h1' := h1
    rw [← List.take_append_drop p v] at h1'
    exact (ir.1 h1').1
  have hnd : ((List.range (v.length + 1)).map fun p => (cdN (dJ m l (v.take p)) 8 : Int)).Nodup := by
    refine List.pairwise_map.2 (List.Pairwise.imp_of_mem (fun {p q} hp hq hlt e => ?_) (List.pairwise_lt_range (n := v.length + 1)))
    have hp := List.mem_range.1 hp
    have hq := List.mem_range.1 hq
    have st : ∀ p, cO m (dJ m l (v.take p)) := fun p => oC hm (fun x hx => hwv x (List.mem_of_mem_take hx)) hst
    have hse : nV (dJ m l (v.take q)) (dJ m l (v.take p)) := wP (n := 8) (fun x hx => by have := st q x hx; omega) (fun x hx => by have := st p x hx; omega) (by omega)
    have hs := wo hse (gP hn (hch q)) (gP hn (hch p)) (hsp q)
    have hs2 := oW (hch p) hs
    have := hmin _ (fun x hx => by
      rcases List.mem_append.1 hx with hx | hx
      · exact hwv x (List.mem_of_mem_take hx)
      · rcases List.mem_append.1 hx with hx | hx
        · exact hwv x (List.mem_of_mem_drop hx)
        · exact hw x (by simp at hx; simp [hx])) hs2
    simp only [aq, List.length_take, List.length_drop, au, aC] at this
    omega
  have := fm 256 _ hnd (fun x hx => by
    obtain ⟨p, _, rfl⟩ := List.mem_map.1 hx
    have := tM (dJ m l (v.take p)) 8
    omega)
  rw [aD, List.length_range] at this
  rw [aq]
  simp only [au, aC]
  omega
/-plain-/
def qX : Nat → Nat → Nat
  | 0, _ => 0
  | k + 1, c => qX k (c / 2) + c % 2
theorem zn (l : List Int) : ∀ k, qX k (cdN l k) = ((rgI k).filter fun x => decide (x ∈ l)).length
  | 0 => rfl
  | k + 1 => by
    have e : rgI (k + 1) = rgI k ++ [(k : Int)] := by unfold rgI; rw [List.range_succ, List.map_append]; rfl
    rw [e, List.filter_append, aq, ← zn l k]
    show qX k (cdN l (k + 1) / 2) + cdN l (k + 1) % 2 = _
    rw [cdN]
    by_cases h : (k : Int) ∈ l
    · rw [if_pos h, List.filter_cons_of_pos (by simpa using h), show (2 * cdN l k + 1) / 2 = cdN l k by omega, show (2 * cdN l k + 1) % 2 = 1 by omega]; rfl
    · rw [if_neg h, List.filter_cons_of_neg (by simpa using h), show (2 * cdN l k + 0) / 2 = cdN l k by omega, show (2 * cdN l k + 0) % 2 = 0 by omega]; rfl
theorem B8 {l : List Int} {k : Nat} (hn : l.Nodup) (hl : ∀ x ∈ l, 0 ≤ x ∧ x < k) : qX k (cdN l k) = l.length := by
  rw [zn]
  refine Nat.le_antisymm (eF _ _ (List.Pairwise.filter _ (oI k)) fun x hx => ?_) (eF _ _ hn fun x hx => ?_)
  · exact of_decide_eq_true (List.mem_filter.1 hx).2
  · have := hl x hx
    refine List.mem_filter.2 ⟨?_, decide_eq_true hx⟩
    exact List.mem_map.2 ⟨x.toNat, List.mem_range.2 (by omega), by omega⟩
def Bi (k : Nat) : Nat := ((List.range 256).filter fun c => decide (qX 8 c = k)).length
def l6 : Nat → Nat
  | 0 => 0
  | k + 1 => l6 k + Bi (k + 1)
theorem ua {j k : Nat} (h : j ≤ k) : l6 j ≤ l6 k := by
  induction h with
  | refl => exact Nat.le_refl _
  | step h ih => rw [l6]; omega
theorem BM : l6 8 = 255 := by decide +kernel
theorem zg {m : Mly} (hm : MOK m) (hn8 : m.nx.length ≤ 8) {l w : List Int} (hn : l.Nodup) (hst : cO m l) (hw : dy m w) (h : spW m l w) (hmin : ∀ v, dy m v → spW m l v → w.length ≤ v.length) : w.length ≤ Bi l.length := by
  obtain ⟨v, a, rfl, h1, h2, h3⟩ := h
  have hwv : dy m v := fun x hx => hw x (List.mem_append_left _ hx)
  have hsp : ∀ p, spW m (dJ m l (v.take p)) (v.drop p ++ [a]) := fun p => by
    have h1' := h1
    rw [← List.take_append_drop p v] at h1'
    have hc := (ir.1 h1').2
    refine ⟨_, _, rfl, hc, ?_, ?_⟩
    · rw [← gN, List.take_append_drop]; exact h2
    · rw [← gN, List.take_append_drop]; exact h3
  have hch : ∀ p, chW m l (v.take p) := fun p => by
    have h1' := h1
    rw [← List.take_append_drop p v] at h1'
    exact (ir.1 h1').1
  have hnd : ((List.range (v.length + 1)).map fun p => (cdN (dJ m l (v.take p)) 8 : Int)).Nodup := by
    refine List.pairwise_map.2 (List.Pairwise.imp_of_mem (fun {p q} hp hq hlt e => ?_) (List.pairwise_lt_range (n := v.length + 1)))
    have hp := List.mem_range.1 hp
    have hq := List.mem_range.1 hq
    have st : ∀ p, cO m (dJ m l (v.take p)) := fun p => oC hm (fun x hx => hwv x (List.mem_of_mem_take hx)) hst
    have hse : nV (dJ m l (v.take q)) (dJ m l (v.take p)) := wP (n := 8) (fun x hx => by have := st q x hx; omega) (fun x hx => by have := st p x hx; omega) (by omega)
    have hs := wo hse (gP hn (hch q)) (gP hn (hch p)) (hsp q)
    have hs2 := oW (hch p) hs
    have := hmin _ (fun x hx => by
      rcases List.mem_append.1 hx with hx | hx
      · exact hwv x (List.mem_of_mem_take hx)
      · rcases List.mem_append.1 hx with hx | hx
        · exact hwv x (List.mem_of_mem_drop hx)
        · exact hw x (by simp at hx; simp [hx])) hs2
    simp only [aq, List.length_take, List.length_drop, au, aC] at this
    omega
  have hl9 : ∀ (v l : List Int), (dJ m l v).length = l.length := by
    intro v
    induction v with
    | nil => intro l; rfl
    | cons x v ih => intro l; show (dJ m (cr m l x) v).length = _; rw [ih]; exact aD ..
  have := eF _ (((List.range 256).filter fun c => decide (qX 8 c = l.length)).map fun (c : Nat) => (c : Int)) hnd (fun x hx => by
    obtain ⟨p, _, rfl⟩ := List.mem_map.1 hx
    have h1 := tM (dJ m l (v.take p)) 8
    refine List.mem_map.2 ⟨_, List.mem_filter.2 ⟨List.mem_range.2 (by omega), decide_eq_true ?_⟩, rfl⟩
    have st := oC hm (fun x hx => hwv x (List.mem_of_mem_take hx)) hst (v := v.take p)
    rw [B8 (gP hn (hch p)) (fun x hx => by have := st x hx; omega), hl9])
  rw [aD, List.length_range, aD] at this
  rw [aq]
  simp only [au, aC]
  exact this
def jN (w : List Int) : Nat := if w = [] then 257 else 514
theorem fx : jN [] = 257 := rfl
theorem fW (a : Int) (w : List Int) : jN (a :: w) = 514 := if_neg (by simp)
theorem xZ {m : Mly} {cur : List Int} {a o : Int} (h : ∀ s ∈ cur, m.out s a = o) : ptL m cur a o cur.length = (List.range cur.length).map (fun (q : Nat) => (q : Int)) := by
  unfold ptL
  rw [List.filter_eq_self.2]
  intro q hq
  have := List.mem_range.1 hq
  exact decide_eq_true (h _ (bh (by omega)))
theorem uy (l : List Int) : pkL l ((List.range l.length).map (fun (q : Nat) => (q : Int))) = l := by
  unfold pkL
  rw [List.map_map]
  apply List.ext_getElem (by simp)
  intro i h1 h2
  simp [List.getD, h2]
theorem vo {m : Mly} {ini cur : List Int} {a o : Int} (hil : ini.length = cur.length) (h : ∀ s ∈ cur, m.out s a = o) : bU m ini cur a cur.length o = ini ∧ bE m cur a cur.length o = cr m cur a := by
  unfold bU bE
  rw [xZ h]
  refine ⟨?_, ?_⟩
  · rw [← hil]; exact uy ini
  · rw [uy]
theorem xq {xs : List Int} {o : Int} (h0 : 0 < xs.length) (h : ∀ x ∈ xs, x = o) : aA xs = [o] := by
  obtain ⟨h1, h2⟩ := du xs
  have hm : ∀ x ∈ aA xs, x = o := fun x hx => h x ((h2 x).1 hx)
  have ho : o ∈ aA xs := by
    have h9 : xs.getD 0 0 ∈ xs := bh h0
    rw [h2, ← h _ h9]; exact h9
  match hu : aA xs with
  | [] => rw [hu] at ho; cases ho
  | [x] => rw [hm x (by rw [hu]; simp)]
  | x :: y :: r =>
    have e1 := hm x (by rw [hu]; simp)
    have e2 := hm y (by rw [hu]; simp)
    rw [hu] at h1
    have := (List.pairwise_cons.1 h1).1 y (by simp)
    omega
theorem pj {m : Mly} {cur : List Int} {a : Int} (h : smO m cur a cur.length = false) : 2 ≤ (aA (ouL m cur a)).length := by
  refine Classical.byContradiction fun hn => ?_
  have h9 : smO m cur a cur.length = true := j8.2 fun s t hs ht => by
    have h2 := (du (ouL m cur a)).2
    have ms : m.out s a ∈ aA (ouL m cur a) := (h2 _).2 (List.mem_map.2 ⟨s, hs, rfl⟩)
    have mt : m.out t a ∈ aA (ouL m cur a) := (h2 _).2 (List.mem_map.2 ⟨t, ht, rfl⟩)
    match hu : aA (ouL m cur a) with
    | [] => rw [hu] at ms; cases ms
    | [x] =>
      rw [hu, List.mem_singleton] at ms mt
      rw [ms, mt]
    | x :: y :: r => rw [hu] at hn; simp only [au] at hn; omega
  rw [h] at h9; cases h9
theorem y8 {m : Mly} {cur : List Int} {a o : Int} (hn : cur.Nodup) (h : unS m cur a cur.length = false) : (bE m cur a cur.length o).Nodup := by
  unfold bE cr pkL ptL
  rw [List.map_map, List.map_map]
  refine List.pairwise_map.2 ?_
  have h0 : ((List.range cur.length).filter (fun (q : Nat) => decide (m.out (cur.getD q 0) a = o))).Nodup := List.Pairwise.filter _ List.nodup_range
  refine List.Pairwise.imp_of_mem (fun {p q} hp hq hne e => hne ?_) h0
  obtain ⟨p1, p2⟩ := List.mem_filter.1 hp
  obtain ⟨q1, q2⟩ := List.mem_filter.1 hq
  have p1 := List.mem_range.1 p1
  have q1 := List.mem_range.1 q1
  have p2 := of_decide_eq_true p2
  have q2 := of_decide_eq_true q2
  simp only [Function.comp, ah] at e
  exact iI hn p1 q1 (uS hn h (bh p1) (bh q1) (by rw [p2, q2]) e)
theorem vt {m : Mly} {cur : List Int} {a o : Int} : ∀ i, i ≤ cur.length → (ptL m cur a o i).length = (ouL m (cur.take i) a).count o
  | 0, _ => rfl
  | i + 1, h => by
    have ih := vt (m := m) (cur := cur) (a := a) (o := o) i (by omega)
    rw [ic (by omega), List.count_append, ← ih]
    by_cases e : m.out (cur.getD i 0) a = o
    · rw [lT e, aq, e]; simp
    · rw [oH e, List.count_cons_of_ne e]; simp
theorem wI {m : Mly} {cur : List Int} {a o : Int} : (bE m cur a cur.length o).length = (ouL m cur a).count o := by
  have h := vt (m := m) (cur := cur) (a := a) (o := o) cur.length (Nat.le_refl _)
  rw [aE] at h
  unfold bE cr pkL
  rw [aD, aD, h]
def fB (ys ks : List Int) : Nat := (ks.map fun o => ys.count o).sum
theorem qV (ys k1 k2 : List Int) : fB ys (k1 ++ k2) = fB ys k1 + fB ys k2 := by unfold fB; rw [List.map_append, List.sum_append]
theorem yj (ks : List Int) : fB [] ks = 0 := by
  induction ks with
  | nil => rfl
  | cons k ks ih => unfold fB at ih ⊢; rw [aJ, List.sum_cons, ih]; rfl
theorem rX {y : Int} {ys : List Int} : ∀ {ks : List Int}, y ∉ ks → fB (y :: ys) ks = fB ys ks
  | [], _ => rfl
  | k :: ks, h => by
    have ih := rX (ys := ys) (ks := ks) (fun h9 => h (aL _ h9))
    unfold fB at ih ⊢
    rw [aJ, List.sum_cons, aJ, List.sum_cons, ih, List.count_cons_of_ne (fun e => h (by rw [e]; exact aO ..))]
theorem vw {y : Int} {ys : List Int} : ∀ {ks : List Int}, ks.Nodup → y ∈ ks → fB (y :: ys) ks = fB ys ks + 1
  | k :: ks, hn, h => by
    obtain ⟨h1, h2⟩ := List.nodup_cons.1 hn
    by_cases e : y = k
    · subst e
      have := rX (ys := ys) h1
      unfold fB at this ⊢
      rw [aJ, List.sum_cons, aJ, List.sum_cons, this, List.count_cons_self]; omega
    · have ih := vw (ys := ys) h2 ((List.mem_cons.1 h).resolve_left e)
      unfold fB at ih ⊢
      rw [aJ, List.sum_cons, aJ, List.sum_cons, ih, List.count_cons_of_ne e]; omega
theorem si {ks : List Int} (hn : ks.Nodup) : ∀ {ys : List Int}, (∀ y ∈ ys, y ∈ ks) → fB ys ks = ys.length
  | [], _ => yj ks
  | y :: ys, h => by
    rw [vw hn (h y (aO ..)), si hn fun z hz => h z (aL _ hz)]; rfl
theorem qn {ys : List Int} : ∀ {ks : List Int}, (∀ k ∈ ks, k ∈ ys) → ks.length ≤ fB ys ks
  | [], _ => Nat.zero_le _
  | k :: ks, h => by
    have ih := qn (ys := ys) (ks := ks) fun z hz => h z (aL _ hz)
    have := List.count_pos_iff.2 (h k (aO ..))
    unfold fB at ih ⊢
    rw [aJ, List.sum_cons, au]; omega
theorem qo {ys ks : List Int} {i : Nat} (h : i < ks.length) : fB ys (ks.take (i + 1)) = fB ys (ks.take i) + ys.count (ks.getD i 0) := by
  rw [cY h, qV]
  show _ + (([_] : List Int).map _).sum = _
  simp
def ll (T : List aX) (n : Nat) (D : List aX) : Prop := ∀ i, i < D.length → T[n + i]? = D[i]?
theorem wT {T : List aX} {n : Nat} {D E : List aX} (h : ll T n (D ++ E)) : ll T n D := fun i hi => by
  rw [h i (by rw [aq]; omega), List.getElem?_append_left hi]
theorem wM {T : List aX} {n : Nat} {D E : List aX} (h : ll T n (D ++ E)) : ll T (n + D.length) E := fun i hi => by
  have h1 := h (D.length + i) (by rw [aq]; omega)
  rw [List.getElem?_append_right (by omega), show D.length + i - D.length = i by omega] at h1
  rw [← h1]; congr 1; omega
theorem oF {T : List aX} {n : Nat} {x : aX} {D : List aX} (h : ll T n (x :: D)) : n < T.length ∧ T.getD n nd0 = x ∧ ll T (n + 1) D := by
  have h0 := h 0 (by simp)
  rw [Nat.add_zero, List.getElem?_cons_zero] at h0
  refine ⟨(List.getElem?_eq_some_iff.1 h0).1, by rw [List.getD, h0]; rfl, fun i hi => ?_⟩
  have h1 := h (i + 1) (by simp only [au]; omega)
  rw [List.getElem?_cons_succ] at h1
  rw [← h1]; congr 1; omega
def wQ (m : Mly) (x : aX) : Prop := x.2.1 = -1 → x.1.length = 1 ∨ ∃ c, cO m c ∧ c.Nodup ∧ 2 ≤ c.length ∧ fdW m c = none
structure GOK (m : Mly) (ini cur w : List Int) (n : Nat) (D : List aX) : Prop where
  len : D.length + jN w ≤ w.length + 258 * cur.length
  rt : ∀ (T : List aX) (g : Nat), ll T n D → T.length + 1 ≤ g + n → rtF m T g n ini cur = some (n + D.length)
  lf : ∀ x ∈ D, wQ m x
  dw : ∀ (T : List aX), ll T n D → ∀ (f : Nat) (s : Int), s ∈ cur → (wdG m T f n s).1.length ≤ w.length + l6 (cur.length - if w = [] then 0 else 1)
structure FOK (m : Mly) (ini cur : List Int) (a : Int) (w : List Int) (n i : Nat) (t : List aX × List dD) : Prop where
  len : t.1.length + jN w * i ≤ w.length * i + 258 * fB (ouL m cur a) ((aA (ouL m cur a)).take i)
  kl : t.2.length = i
  lf : ∀ x ∈ t.1, wQ m x
  rt : ∀ (T : List aX) (g : Nat), ll T (n + 1) t.1 → T.length + 1 ≤ g + (n + 1) → ∀ x : aX, x.2.1 = a → (∀ j, j < i → x.2.2.1.getD j kd0 = t.2.getD j kd0) → (List.range i).foldl (fE m (rtF m T g) ini cur x) (some (n + 1)) = some (n + 1 + t.1.length)
  dw : ∀ (T : List aX), ll T (n + 1) t.1 → ∀ j, j < i → ∃ e : Nat, t.2.getD j kd0 = ((aA (ouL m cur a)).getD j 0, (e : Int), ()) ∧ ∀ (f : Nat) (s : Int), s ∈ bE m cur a cur.length ((aA (ouL m cur a)).getD j 0) → (wdG m T f e s).1.length ≤ w.length + l6 ((bE m cur a cur.length ((aA (ouL m cur a)).getD j 0)).length - if w = [] then 0 else 1)
theorem yx {K : List dD} {k : dD} {j : Nat} (h : j < K.length) : (K ++ [k]).getD j kd0 = K.getD j kd0 := by simp [List.getD, List.getElem?_append_left h]
theorem zr {K : List dD} {k : dD} : (K ++ [k]).getD K.length kd0 = k := by simp [List.getD]
theorem lC {m : Mly} {ini cur w : List Int} {a : Int} {n : Nat} {rec : List Int → List Int → Nat → List aX}
    (hr : ∀ o ∈ aA (ouL m cur a), ∀ k, n + 1 ≤ k → k + w.length + 258 * (bE m cur a cur.length o).length ≤ 4096 + jN w → GOK m (bU m ini cur a cur.length o) (bE m cur a cur.length o) w k (rec (bU m ini cur a cur.length o) (bE m cur a cur.length o) k))
    (hB : ∀ i, i < (aA (ouL m cur a)).length → n + 1 + w.length * (i + 1) + 258 * fB (ouL m cur a) ((aA (ouL m cur a)).take (i + 1)) ≤ 4096 + jN w * (i + 1))
    (hC : ∀ o ∈ aA (ouL m cur a), jN w ≤ w.length + 258 * (bE m cur a cur.length o).length) : ∀ i, i ≤ (aA (ouL m cur a)).length → FOK m ini cur a w n i (((aA (ouL m cur a)).take i).foldl (dm n rec m ini cur a) ([], []))
  | 0, _ => ⟨by simp, rfl, fun x hx => (by cases hx), fun T g _ _ x _ _ => rfl, fun T _ j hj => by omega⟩
  | i + 1, hi => by
    have ih := lC hr hB hC i (by omega)
    have ho : (aA (ouL m cur a)).getD i 0 ∈ aA (ouL m cur a) := bh (by omega)
    have hb := hB i (by omega)
    have hc := hC _ ho
    have hcs := qo (ys := ouL m cur a) (ks := aA (ouL m cur a)) (i := i) (by omega)
    rw [← wI] at hcs
    rcases ht : ((aA (ouL m cur a)).take i).foldl (dm n rec m ini cur a) ([], []) with ⟨D, K⟩
    rw [ht] at ih
    obtain ⟨i1, i2, i3, i4, i5⟩ := ih
    simp only at i1 i2 i3 i4 i5
    rw [hcs, Nat.mul_succ, Nat.mul_succ] at hb
    have hk : n + 1 + D.length + w.length + 258 * (bE m cur a cur.length ((aA (ouL m cur a)).getD i 0)).length ≤ 4096 + jN w := by omega
    have hg := hr _ ho (n + 1 + D.length) (by omega) hk
    rw [nt (by omega) ht (by omega)]
    obtain ⟨g1, g2, g3, g4⟩ := hg
    refine ⟨?_, by simp [i2], fun x hx => ?_, fun T g hT hg x hx hK => ?_, fun T hT j hj => ?_⟩
    · show (D ++ _).length + _ ≤ _
      rw [hcs, aq, Nat.mul_succ, Nat.mul_succ]
      omega
    · rcases List.mem_append.1 hx with h | h
      · exact i3 x h
      · exact g3 x h
    · have hT1 := wT hT
      have hT2 := wM hT
      have h1 := i4 T g hT1 hg x hx (fun j hj => by rw [hK j (by omega)]; exact yx (by omega))
      have h2 := hK i (by omega)
      have h3 : (K ++ [((aA (ouL m cur a)).getD i 0, ((n + 1 + D.length : Nat) : Int), ())]).getD i kd0 = ((aA (ouL m cur a)).getD i 0, ((n + 1 + D.length : Nat) : Int), ()) := by rw [← i2]; exact zr
      have h4 : x.2.2.1.getD i kd0 = ((aA (ouL m cur a)).getD i 0, ((n + 1 + D.length : Nat) : Int), ()) := h2.trans h3
      refine pU h1 ?_
      rw [ni (by rw [h4, hx]; exact ⟨rfl, rfl⟩), hx, g2 T g hT2 (by omega)]
      congr 1
      show _ = n + 1 + (D ++ _).length
      rw [aq]; omega
    · by_cases e : j = i
      · subst e
        refine ⟨n + 1 + D.length, ?_, fun f s hs => g4 T (wM hT) f s hs⟩
        show (K ++ [_]).getD j kd0 = _
        rw [← i2]; exact zr
      · obtain ⟨e9, e1, e2⟩ := i5 T (wT hT) j (by omega)
        refine ⟨e9, ?_, e2⟩
        show (K ++ [_]).getD j kd0 = _
        rw [yx (by omega)]; exact e1
theorem sI (m : Mly) : ∀ (v l : List Int), (dJ m l v).length = l.length
  | [], _ => rfl
  | x :: v, l => by show (dJ m (cr m l x) v).length = _; rw [sI m v]; exact aD ..
theorem vc {m : Mly} {l w : List Int} (h : spW m l w) : 2 ≤ l.length := by
  refine Classical.byContradiction fun h9 => ?_
  obtain ⟨v, c, _, hc1, _, hc3⟩ := h
  have h4 : smO m (dJ m l v) c (dJ m l v).length = true := j8.2 fun s t hs9 ht9 => by
    have e9 : (dJ m l v).length ≤ 1 := by rw [sI]; omega
    match hq : dJ m l v with
    | [] => rw [hq] at hs9; cases hs9
    | [x] => rw [hq, List.mem_singleton] at hs9 ht9; rw [hs9, ht9]
    | x :: y :: r => rw [hq] at e9; simp at e9
  rw [hc3] at h4; cases h4
theorem pf {m : Mly} (hm : MOK m) {f : Nat} (IH : ∀ (ini cur w : List Int) (n : Nat), 4098 ≤ f + n → cO m cur → cur.Nodup → ini.length = cur.length → 0 < cur.length → dy m w → (w ≠ [] → spW m cur w) → n + w.length + 258 * cur.length ≤ 4096 + jN w → GOK m ini cur w n (cq m f ini cur w n))
    {ini cur w0 w2 : List Int} {a : Int} {n : Nat} (hgw : dR m ini cur w0 = a :: w2) (hf : 4098 ≤ f + 1 + n) (hst : cO m cur) (hn : cur.Nodup) (hil : ini.length = cur.length) (h0 : 0 < cur.length) (hw : dy m (a :: w2)) (hs : spW m cur (a :: w2)) (hb : n + (a :: w2).length + 258 * cur.length ≤ 4096 + 514) :
    GOK m ini cur (a :: w2) n (cq m (f + 1) ini cur w0 n) := by
  have ha := hw a (aO ..)
  have hw2 : dy m w2 := fun x hx => hw x (aL _ hx)
  obtain ⟨hu, hs2⟩ := mX.1 hs
  have hol : (ouL m cur a).length = cur.length := aD ..
  obtain ⟨u1, u2⟩ := du (ouL m cur a)
  have und : (aA (ouL m cur a)).Nodup := u1.imp fun h e => by omega
  have hcall : fB (ouL m cur a) (aA (ouL m cur a)) = cur.length := by rw [si und fun y hy => (u2 y).2 hy, hol]
  have hge : ∀ i, i ≤ (aA (ouL m cur a)).length → fB (ouL m cur a) ((aA (ouL m cur a)).take i) + ((aA (ouL m cur a)).length - i) ≤ cur.length := fun i hi => by
    have h1 := qV (ouL m cur a) ((aA (ouL m cur a)).take i) ((aA (ouL m cur a)).drop i)
    rw [List.take_append_drop, hcall] at h1
    have h2 := qn (ys := ouL m cur a) (ks := (aA (ouL m cur a)).drop i) fun k hk => (u2 k).1 (List.mem_of_mem_drop hk)
    rw [List.length_drop] at h2
    omega
  have hrec : ∀ o ∈ aA (ouL m cur a), (w2 ≠ [] → spW m (bE m cur a cur.length o) w2) → ∀ k, n + 1 ≤ k → k + w2.length + 258 * (bE m cur a cur.length o).length ≤ 4096 + jN w2 → GOK m (bU m ini cur a cur.length o) (bE m cur a cur.length o) w2 k (cq m f (bU m ini cur a cur.length o) (bE m cur a cur.length o) w2 k) := fun o ho hsp k hk hkb =>
    IH _ _ w2 k (by omega) (lL hm ha hst) (y8 hn hu) (gJ ..) (jL ho) hw2 hsp hkb
  have hfull : FOK m ini cur a w2 n (aA (ouL m cur a)).length (((aA (ouL m cur a)).take (aA (ouL m cur a)).length).foldl (dm n (fun i c k => cq m f i c w2 k) m ini cur a) ([], [])) ∧ jN w2 * (aA (ouL m cur a)).length + w2.length ≥ 514 + w2.length * (aA (ouL m cur a)).length := by
    rcases hs2 with ⟨rfl, h2⟩ | ⟨h2, h3⟩
    · have hr2 := pj h2
      refine ⟨lC (fun o ho => hrec o ho fun h => absurd rfl h) (fun i hi => ?_) (fun o ho => ?_) _ (Nat.le_refl _), ?_⟩
      · have := hge (i + 1) (by omega)
        rw [fx]
        simp only [au, aC] at hb ⊢
        by_cases e : i = 0
        · subst e; omega
        · omega
      · have := jL ho
        rw [fx]; simp only [aC]; omega
      · rw [fx]; simp only [aC]; omega
    · cases w2 with
      | nil => exact absurd rfl (th h3)
      | cons b w3 =>
        have hall : ∀ s ∈ cur, m.out s a = m.out (cur.getD 0 0) a := fun s hs9 => j8.1 h2 _ _ hs9 (bh h0)
        have huo : aA (ouL m cur a) = [m.out (cur.getD 0 0) a] := xq (by omega) fun x hx => by
          obtain ⟨s, hs9, rfl⟩ := List.mem_map.1 hx
          exact hall s hs9
        have hgc := (vo hil hall).2
        have hlen : (cr m cur a).length = cur.length := aD ..
        have h2c : 2 ≤ (cr m cur a).length := vc h3
        have hcnt := hge 1 (by rw [huo]; simp)
        refine ⟨lC (fun o ho => hrec o ho fun _ => ?_) (fun i hi => ?_) (fun o ho => ?_) _ (Nat.le_refl _), ?_⟩
        · rw [huo, List.mem_singleton] at ho
          rw [ho, hgc]; exact h3
        · rw [huo] at hi hcnt ⊢
          simp only [au, aC] at hi hb hcnt
          have : i = 0 := by omega
          subst this
          rw [fW]
          simp only [au, Nat.zero_add, Nat.mul_one]
          omega
        · rw [huo, List.mem_singleton] at ho
          rw [ho, hgc, fW]; simp only [au]; omega
        · rw [huo, fW]; simp only [au, aC]; omega
  rw [aE] at hfull
  obtain ⟨⟨f1, f2, f3, f4, f6⟩, f5⟩ := hfull
  rw [aE, hcall] at f1
  have hn4 : ¬ 4096 < n + 1 := by simp only [au] at hb; omega
  rw [d7 hn4 hgw]
  rcases ht : (aA (ouL m cur a)).foldl (dm n (fun i c k => cq m f i c w2 k) m ini cur a) ([], []) with ⟨D, K⟩
  rw [ht] at f1 f2 f3 f4 f6
  simp only at f1 f2 f3 f4 f6 ⊢
  have hdn : ∀ o ∈ aA (ouL m cur a), w2.length + l6 ((bE m cur a cur.length o).length - if w2 = [] then 0 else 1) ≤ w2.length + l6 (cur.length - 1) := fun o ho => by
    obtain ⟨q, hq, eq⟩ := gq ho
    have h1 := hge (q + 1) (by omega)
    have h2 := qo (ys := ouL m cur a) (ks := aA (ouL m cur a)) hq
    rw [eq, ← wI] at h2
    have h4 := qn (ys := ouL m cur a) (ks := (aA (ouL m cur a)).take q) fun k hk => (u2 k).1 (List.mem_of_mem_take hk)
    rw [List.length_take] at h4
    refine Nat.add_le_add_left (ua ?_) _
    rcases hs2 with ⟨rfl, h3⟩ | ⟨h3, h5⟩
    · have h9 := pj h3
      rw [if_pos rfl]
      by_cases e : q = 0
      · omega
      · omega
    · rw [if_neg (th h5)]
      omega
  refine ⟨?_, fun T g hT hg => ?_, fun x hx => ?_, fun T hT f9 s hs9 => ?_⟩
  · rw [fW]; simp only [au] at f5 ⊢; omega
  · obtain ⟨c1, c2, c3⟩ := oF hT
    obtain ⟨g, rfl⟩ : ∃ g9, g = g9 + 1 := ⟨g - 1, by omega⟩
    have e1 : (T.getD n nd0).1 = ini := by rw [c2]
    have e2 : (T.getD n nd0).2.1 = a := by rw [c2]
    have e3 : (T.getD n nd0).2.2.1 = K := by rw [c2]
    rw [mU ⟨c1, e1, hn⟩ (by rw [e2]; omega) (by rw [e2, e3]; exact ⟨ha.1, ha.2, f2.symm⟩), e3, f2]
    rw [f4 T g c3 (by omega) _ e2 (fun j _ => by rw [e3])]
    congr 1
    simp only [au]; omega
  · rcases List.mem_cons.1 hx with h | h
    · rw [h]; intro h9
      have h8 : a = -1 := h9
      omega
    · exact f3 x h
  · obtain ⟨c1, c2, c3⟩ := oF hT
    have e2 : (T.getD n nd0).2.1 = a := by rw [c2]
    have e3 : (T.getD n nd0).2.2.1 = K := by rw [c2]
    rw [if_neg (by simp)]
    cases f9 with
    | zero => exact Nat.zero_le _
    | succ f9 =>
      have hin : m.out s a ∈ aA (ouL m cur a) := (u2 _).2 (List.mem_map.2 ⟨s, hs9, rfl⟩)
      obtain ⟨e, q1, q2⟩ := f6 T c3 _ (i8 hin)
      have hgp := lN hin
      rw [hgp] at q1 q2
      have hk : kTo K (m.out s a) = (e : Int) := by
        rw [sX (i := pos (aA (ouL m cur a)) (m.out s a)) (by rw [f2]; exact i8 hin) (by rw [q1]) fun j hj h9 => ?_, q1]
        have hjl := i8 hin
        obtain ⟨e8, r1, _⟩ := f6 T c3 j (by omega)
        rw [r1] at h9
        have h8 : (aA (ouL m cur a)).getD j 0 = m.out s a := h9
        have e1 : (aA (ouL m cur a)).getD j 0 = (aA (ouL m cur a))[j]'(by omega) := sV (by omega)
        have e2 : (aA (ouL m cur a)).getD (pos (aA (ouL m cur a)) (m.out s a)) 0 = (aA (ouL m cur a))[pos (aA (ouL m cur a)) (m.out s a)]'hjl := sV hjl
        have := List.pairwise_iff_getElem.1 u1 _ _ (by omega) hjl hj
        omega
      rw [wN (by rw [e2]; omega), e2, e3, hk, ah]
      have h1 := q2 f9 (m.nxt s a) (zw hs9)
      have h2 := hdn _ hin
      simp only [au]
      omega
theorem pl {m : Mly} {ini cur : List Int} {n : Nat} (hn : cur.Nodup) (h0 : 0 < cur.length) (hl : wQ m (ini, -1, [], ())) : GOK m ini cur [] n [(ini, -1, [], ())] := by
  refine ⟨by rw [fx]; simp only [au, aC]; omega, fun T g hT hg => ?_, fun x hx => ?_, fun T hT f s _ => ?_⟩
  · obtain ⟨c1, c2, _⟩ := oF hT
    obtain ⟨g, rfl⟩ : ∃ g9, g = g9 + 1 := ⟨g - 1, by omega⟩
    have e1 : (T.getD n nd0).1 = ini := by rw [c2]
    have e2 : (T.getD n nd0).2.1 = -1 := by rw [c2]
    have e3 : (T.getD n nd0).2.2.1 = [] := by rw [c2]
    rw [dF ⟨c1, e1, hn⟩ e2, e3]; rfl
  · rw [List.mem_singleton] at hx; rw [hx]; exact hl
  · obtain ⟨_, c2, _⟩ := oF hT
    rw [vx (by rw [c2]; show (-1 : Int) < 0; decide)]; exact Nat.zero_le _
theorem qC {m : Mly} (hm : MOK m) (n8 : m.nx.length ≤ 8) : ∀ (f : Nat) (ini cur w : List Int) (n : Nat), 4098 ≤ f + n → cO m cur → cur.Nodup → ini.length = cur.length → 0 < cur.length → dy m w → (w ≠ [] → spW m cur w) → n + w.length + 258 * cur.length ≤ 4096 + jN w → GOK m ini cur w n (cq m f ini cur w n)
  | 0, ini, cur, w, n, hf, hst, hn, hil, h0, hw, hs, hb => by
    exfalso
    cases w with
    | nil => rw [fx] at hb; simp only [aC] at hb; omega
    | cons a w => have h9 := vc (hs (by simp)); rw [fW] at hb; simp only [au] at hb; omega
  | f + 1, ini, cur, w, n, hf, hst, hn, hil, h0, hw, hs, hb => by
    cases w with
    | cons a w => exact pf hm (qC hm n8 f) (if_neg (by simp)) hf hst hn hil h0 hw (hs (by simp)) (by rw [fW] at hb; exact hb)
    | nil =>
      rw [fx] at hb
      simp only [aC] at hb
      by_cases h1 : 1 < ini.length
      · have hg : dR m ini cur [] = (fdW m cur).getD [] := if_pos ⟨rfl, h1⟩
        obtain ⟨q1, q2⟩ := pm m cur
        cases hq : (fdW m cur).getD [] with
        | nil =>
          rw [ew (by omega) (hg.trans hq)]
          exact pl hn h0 fun _ => .inr ⟨cur, hst, hn, by omega, q2 hq⟩
        | cons a w =>
          have hfd : fdW m cur = some (a :: w) := by
            cases h9 : fdW m cur with
            | none => rw [h9] at hq; cases hq
            | some v => rw [h9] at hq; have : v = a :: w := hq; rw [this]
          obtain ⟨s1, s2⟩ := Al hfd
          rw [hq] at q1
          have s3 := yd hm n8 hn hst q1 s1 s2
          have s4 := zg hm n8 hn hst q1 s1 s2
          obtain ⟨g1, g2, g3, g4⟩ := pf hm (qC hm n8 f) (hg.trans hq) hf hst hn hil h0 q1 s1 (by omega)
          refine ⟨?_, g2, g3, fun T hT f s hs => ?_⟩
          · rw [fW] at g1
            rw [fx]; simp only [aC]; omega
          · have h9 := g4 T hT f s hs
            rw [if_neg (by simp)] at h9
            rw [if_pos rfl]
            obtain ⟨k, hk⟩ : ∃ k, cur.length = k + 1 := ⟨cur.length - 1, by omega⟩
            rw [hk] at s4 h9 ⊢
            rw [Nat.sub_zero, l6]
            simp only [au, aC, Nat.add_sub_cancel] at s4 h9 ⊢
            omega
      · have hg : dR m ini cur [] = [] := if_neg fun h => h1 h.2
        rw [ew (by omega) hg]
        exact pl hn h0 fun _ => .inl (by show ini.length = 1; omega)
def ff (m : Mly) : List aX := cq m 4098 (rgI m.nx.length) (rgI m.nx.length) [] 0
theorem A3 {m : Mly} (hm : MOK m) (n8 : m.nx.length ≤ 8) : (ff m).length ≤ 2064 ∧ rtF m (ff m) ((ff m).length + 1) 0 (rgI m.nx.length) (rgI m.nx.length) = some (ff m).length ∧ (∀ x ∈ ff m, wQ m x) ∧ ∀ (f : Nat) (s : Int), 0 ≤ s → s < m.nx.length → (wdG m (ff m) f 0 s).1.length ≤ 255 := by
  have hn1 := hm.n1
  obtain ⟨g1, g2, g3, g4⟩ := qC hm n8 4098 (rgI m.nx.length) (rgI m.nx.length) [] 0 (by omega) (m9 m) (oI _) rfl (by rw [dk]; omega) (fun x hx => by cases hx) (fun h => absurd rfl h) (by rw [dk, fx]; simp only [aC]; omega)
  rw [dk, fx] at g1
  simp only [aC] at g1
  refine ⟨?_, ?_, g3, fun f s h0 h1 => ?_⟩
  · show (cq m 4098 (rgI m.nx.length) (rgI m.nx.length) [] 0).length ≤ 2064
    omega
  · have := g2 (ff m) ((ff m).length + 1) (fun i hi => by rw [Nat.zero_add]; rfl) (by omega)
    rw [Nat.zero_add] at this; exact this
  · have h2 := g4 (ff m) (fun i hi => by rw [Nat.zero_add]; rfl) f s (ik.2 ⟨h0, h1⟩)
    rw [if_pos rfl, dk] at h2
    have h3 := ua n8
    rw [BM] at h3
    simp only [aC] at h2
    rw [Nat.sub_zero] at h2
    omega
/-plain-/
def gF (m : Mly) : List aX := dt m 4098 (rgI m.nx.length) (rgI m.nx.length) [] 0
theorem dC (m : Mly) : cq m 4098 (rgI m.nx.length) (rgI m.nx.length) [] 0 = ff m := rfl
theorem dg (m : Mly) : dt m 4098 (rgI m.nx.length) (rgI m.nx.length) [] 0 = gF m := rfl
def dq (m : Mly) : Int := if ¬ dT m = 0 then dT m else if 4096 < (ff m).length then 11 else 0
def fR (m : Mly) : List aX := if dq m = 0 then ff m else []
def ki (m : Mly) : Bool := decide (dq m = 0) && gh (ff m)
def dB (m : Mly) : Int := if ¬ eK m = 0 then eK m else if 4096 < (gF m).length then 11 else 0
def jK (m : Mly) : List aX := if dB m = 0 then gF m else []
def kI (m : Mly) : Bool := decide (dB m = 0) && gh (gF m)
theorem sf (m : Mly) : (ff m).length ≤ 4097 := by have := m6 m 4098 (rgI m.nx.length) (rgI m.nx.length) [] 0 (by omega); rw [Nat.zero_add] at this; exact this
theorem wm (m : Mly) : (gF m).length ≤ 4097 := by have := mv m 4098 (rgI m.nx.length) (rgI m.nx.length) [] 0 (by omega); rw [Nat.zero_add] at this; exact this
theorem fb {m : Mly} (h : ¬ dq m = 0) : fR m = [] ∧ ki m = false := by
  unfold fR ki; rw [if_neg h, decide_eq_false h]; exact ⟨rfl, rfl⟩
theorem fF {m : Mly} (h : dq m = 0) : fR m = ff m ∧ ki m = gh (ff m) := by
  unfold fR ki; rw [if_pos h, decide_eq_true h]; exact ⟨rfl, rfl⟩
theorem eH {m : Mly} (h : ¬ dB m = 0) : jK m = [] ∧ kI m = false := by
  unfold jK kI; rw [if_neg h, decide_eq_false h]; exact ⟨rfl, rfl⟩
theorem gI {m : Mly} (h : dB m = 0) : jK m = gF m ∧ kI m = gh (gF m) := by
  unfold jK kI; rw [if_pos h, decide_eq_true h]; exact ⟨rfl, rfl⟩
theorem j5 (m : Mly) : dB m = dq m ∧ jK m = fR m ∧ kI m = ki m := by
  have h0 := yw m
  have hs := oX m 4098 (rgI m.nx.length) (rgI m.nx.length) [] 0 (by omega) (by omega)
  rw [dC, dg, Nat.zero_add, Nat.zero_add] at hs
  have hE : dB m = dq m := by
    unfold dB dq
    rw [h0]
    rcases hs with ⟨_, h2⟩ | ⟨h1, h2⟩
    · rw [h2]
    · rw [if_pos h1, if_pos h2]
  refine ⟨hE, ?_⟩
  by_cases h : dq m = 0
  · have hT : gF m = ff m := by
      rcases hs with ⟨_, h2⟩ | ⟨h1, h2⟩
      · exact h2
      · exfalso
        unfold dq at h
        rw [if_pos h1] at h
        by_cases h9 : dT m = 0
        · rw [if_neg (fun h8 => h8 h9)] at h; cases h
        · rw [if_pos h9] at h; exact h9 h
    have g1 := fF h
    have g2 := gI (m := m) (by rw [hE]; exact h)
    rw [g1.1, g1.2, g2.1, g2.2, hT]; exact ⟨rfl, rfl⟩
  · have g1 := fb h
    have g2 := eH (m := m) (by rw [hE]; exact h)
    rw [g1.1, g1.2, g2.1, g2.2]; exact ⟨rfl, rfl⟩
end Go.AV
