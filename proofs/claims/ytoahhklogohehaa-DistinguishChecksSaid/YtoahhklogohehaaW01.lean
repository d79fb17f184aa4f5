/- Contracts of functions of this seat, each out of a walk through its code, and plain facts on what they compute. Conditions: those that each theorem names. -/
import Derived.Test.YtoahhklogohehaaW00
set_option linter.unusedSimpArgs false
set_option linter.unusedVariables false
set_option maxRecDepth 100000
namespace Go.AV
open Nat renaming reduceEqDiff → aa, reduceAdd → V, reduceLeDiff → ad, reduceLT → ag, reduceMul → af, reduceSub → ae
open List renaming set_cons_zero → cG, set_cons_succ → cm, getD_cons_zero → au, length_append → aq, map_cons → aI, cons_append → aP, map_nil → bl, length_cons → aw, nil_append → bc, take_succ_cons → dA, length_nil → aH, length_map → aF, length_replicate → aD, take_length → aJ, mem_cons_self → aS, mem_cons_of_mem → aL
open Int renaming toNat_natCast → ah
/-plain-/
theorem nj {xs : List Int} : (aE xs).length = xs.length ↔ xs.Nodup := by
  have hu := dp xs
  have hun : (aE xs).Nodup := hu.1.imp fun h e => by omega
  constructor
  · intro he
    by_cases hn : xs.Nodup
    · exact hn
    · exfalso
      have key : ∀ ys : List Int, ¬ ys.Nodup → ∃ zs : List Int, zs.length + 1 = ys.length ∧ ∀ x, x ∈ ys → x ∈ zs := by
        intro ys
        induction ys with
        | nil => intro h; exact absurd List.nodup_nil h
        | cons y ys ih =>
          intro h
          by_cases hy : y ∈ ys
          · exact ⟨ys, rfl, fun x hx => by rcases List.mem_cons.1 hx with rfl | hx <;> assumption⟩
          · have hny : ¬ ys.Nodup := fun h2 => h (List.nodup_cons.2 ⟨hy, h2⟩)
            obtain ⟨zs, h1, h2⟩ := ih hny
            exact ⟨y :: zs, by simp only [aw]; omega, fun x hx => by
              rcases List.mem_cons.1 hx with rfl | hx
              · exact aS ..
              · exact aL _ (h2 x hx)⟩
      obtain ⟨zs, h1, h2⟩ := key xs hn
      have := dY (aE xs) zs hun fun x hx => h2 x ((hu.2 x).1 hx)
      omega
  · intro hn
    have h1 := dY xs (aE xs) hn fun x hx => (hu.2 x).2 hx
    have h2 := fO xs
    omega
theorem lD {xs : List Int} : xs.Nodup ↔ ∀ k j, k < xs.length → j < k → xs.getD k 0 ≠ xs.getD j 0 := by
  constructor
  · intro h k j hk hj e
    have := List.pairwise_iff_getElem.1 h j k (by omega) hk hj
    apply this
    simpa [List.getD, hk, show j < xs.length by omega] using e.symm
  · intro h
    refine List.pairwise_iff_getElem.2 fun j k hj hk hjk e => h k j hk hjk ?_
    simpa [List.getD, hk, hj] using e.symm
def nd0 : aX := ([], (0, ([], ())))
def kd0 : dx := (0, (0, ()))
def ff (m : Mly) (rec : Nat → List Int → List Int → Option Nat) (ini cur : List Int) (x : aX) (e : Option Nat) (i : Nat) : Option Nat :=
  match e with
  | none => none
  | some n => if (x.2.2.1.getD i kd0).1 = (aE (ouL m cur x.2.1)).getD i 0 ∧ (x.2.2.1.getD i kd0).2.1 = (n : Int) then
      rec n (bV m ini cur x.2.1 cur.length ((aE (ouL m cur x.2.1)).getD i 0)) (bB m cur x.2.1 cur.length ((aE (ouL m cur x.2.1)).getD i 0)) else none
def rtF (m : Mly) (T : List aX) : Nat → Nat → List Int → List Int → Option Nat
  | 0, _, _, _ => none
  | f + 1, p, ini, cur =>
    if p < T.length ∧ (T.getD p nd0).1 = ini ∧ cur.Nodup then
      (if (T.getD p nd0).2.1 = -1 then (if (T.getD p nd0).2.2.1.length = 0 then some (p + 1) else none) else
       if 0 ≤ (T.getD p nd0).2.1 ∧ (T.getD p nd0).2.1 < m.inp ∧ (aE (ouL m cur (T.getD p nd0).2.1)).length = (T.getD p nd0).2.2.1.length then
         (List.range (T.getD p nd0).2.2.1.length).foldl (ff m (rtF m T f) ini cur (T.getD p nd0)) (some (p + 1)) else none)
    else none
theorem jc {m : Mly} {rec : Nat → List Int → List Int → Option Nat} {ini cur : List Int} {x : aX} : ∀ is : List Nat, is.foldl (ff m rec ini cur x) none = none
  | [] => rfl
  | i :: is => jc is
theorem iV {m : Mly} {T : List aX} : ∀ {f p : Nat} {ini cur : List Int} {n : Nat}, rtF m T f p ini cur = some n → p < n ∧ n ≤ T.length
  | 0, _, _, _, _, h => by cases h
  | f + 1, p, ini, cur, n, h => by
    rw [rtF] at h
    split at h
    · rename_i h1
      split at h
      · split at h
        · simp only [Option.some.injEq] at h; omega
        · cases h
      · split at h
        · have key : ∀ (is : List Nat) (e : Nat), p < e ∧ e ≤ T.length → is.foldl (ff m (rtF m T f) ini cur (T.getD p nd0)) (some e) = some n → p < n ∧ n ≤ T.length := by
            intro is
            induction is with
            | nil => intro e he h2; simp only [List.foldl_nil, Option.some.injEq] at h2; omega
            | cons i is ih =>
              intro e he h2
              rw [List.foldl_cons] at h2
              unfold ff at h2
              simp only at h2
              split at h2
              · cases hr : rtF m T f e (bV m ini cur (T.getD p nd0).2.1 cur.length ((aE (ouL m cur (T.getD p nd0).2.1)).getD i 0)) (bB m cur (T.getD p nd0).2.1 cur.length ((aE (ouL m cur (T.getD p nd0).2.1)).getD i 0)) with
                | none =>
                  rw [hr] at h2
                  have := jc (m := m) (rec := rtF m T f) (ini := ini) (cur := cur) (x := T.getD p nd0) is
                  unfold ff at this
                  rw [this] at h2; cases h2
                | some e2 =>
                  rw [hr] at h2
                  have := iV hr
                  exact ih e2 ⟨by omega, by omega⟩ (by unfold ff; exact h2)
              · have := jc (m := m) (rec := rtF m T f) (ini := ini) (cur := cur) (x := T.getD p nd0) is
                unfold ff at this
                rw [this] at h2; cases h2
          exact key _ _ ⟨by omega, by omega⟩ h
        · cases h
    · cases h
theorem kt {m : Mly} {T : List aX} {f p : Nat} {ini cur : List Int} (h : ¬ (p < T.length ∧ (T.getD p nd0).1 = ini ∧ cur.Nodup)) : rtF m T (f + 1) p ini cur = none := by
  rw [rtF, if_neg h]
theorem d7 {m : Mly} {T : List aX} {f p : Nat} {ini cur : List Int} (h : p < T.length ∧ (T.getD p nd0).1 = ini ∧ cur.Nodup) (h2 : (T.getD p nd0).2.1 = -1) : rtF m T (f + 1) p ini cur = if (T.getD p nd0).2.2.1.length = 0 then some (p + 1) else none := by
  rw [rtF, if_pos h, if_pos h2]
theorem jP {m : Mly} {T : List aX} {f p : Nat} {ini cur : List Int} (h2 : ¬ (T.getD p nd0).2.1 = -1) (h3 : ¬ (0 ≤ (T.getD p nd0).2.1 ∧ (T.getD p nd0).2.1 < m.inp ∧ (aE (ouL m cur (T.getD p nd0).2.1)).length = (T.getD p nd0).2.2.1.length)) : rtF m T (f + 1) p ini cur = none := by
  by_cases h : p < T.length ∧ (T.getD p nd0).1 = ini ∧ cur.Nodup
  · rw [rtF, if_pos h, if_neg h2, if_neg h3]
  · exact kt h
theorem kf {m : Mly} {T : List aX} {f p : Nat} {ini cur : List Int} (h : p < T.length ∧ (T.getD p nd0).1 = ini ∧ cur.Nodup) (h2 : ¬ (T.getD p nd0).2.1 = -1) (h3 : 0 ≤ (T.getD p nd0).2.1 ∧ (T.getD p nd0).2.1 < m.inp ∧ (aE (ouL m cur (T.getD p nd0).2.1)).length = (T.getD p nd0).2.2.1.length) :
    rtF m T (f + 1) p ini cur = (List.range (T.getD p nd0).2.2.1.length).foldl (ff m (rtF m T f) ini cur (T.getD p nd0)) (some (p + 1)) := by
  rw [rtF, if_pos h, if_neg h2, if_pos h3]
theorem ku {m : Mly} {rec : Nat → List Int → List Int → Option Nat} {ini cur : List Int} {x : aX} {i n e : Nat} {s : Option Nat} (hi : i < n) (h : (List.range i).foldl (ff m rec ini cur x) s = some e) (h2 : ff m rec ini cur x (some e) i = none) : (List.range n).foldl (ff m rec ini cur x) s = none := by
  have e9 : List.range n = List.range (i + 1) ++ (List.range (n - (i + 1))).map ((i + 1) + ·) := by rw [← List.range_add]; congr 1; omega
  rw [e9, List.foldl_append, List.range_succ, List.foldl_append, h, List.foldl_cons, List.foldl_nil, h2]
  exact jc _
theorem l7 {m : Mly} {rec : Nat → List Int → List Int → Option Nat} {ini cur : List Int} {x : aX} {i e : Nat} {s r : Option Nat} (h : (List.range i).foldl (ff m rec ini cur x) s = some e) (h2 : ff m rec ini cur x (some e) i = r) : (List.range (i + 1)).foldl (ff m rec ini cur x) s = r := by
  rw [List.range_succ, List.foldl_append, h, List.foldl_cons, List.foldl_nil, h2]
theorem kE {m : Mly} {rec : Nat → List Int → List Int → Option Nat} {ini cur : List Int} {x : aX} {e i : Nat} (h : (x.2.2.1.getD i kd0).1 = (aE (ouL m cur x.2.1)).getD i 0 ∧ (x.2.2.1.getD i kd0).2.1 = (e : Int)) :
    ff m rec ini cur x (some e) i = rec e (bV m ini cur x.2.1 cur.length ((aE (ouL m cur x.2.1)).getD i 0)) (bB m cur x.2.1 cur.length ((aE (ouL m cur x.2.1)).getD i 0)) := if_pos h
theorem pr {m : Mly} {rec : Nat → List Int → List Int → Option Nat} {ini cur : List Int} {x : aX} {e i : Nat} (h : ¬ ((x.2.2.1.getD i kd0).1 = (aE (ouL m cur x.2.1)).getD i 0 ∧ (x.2.2.1.getD i kd0).2.1 = (e : Int))) : ff m rec ini cur x (some e) i = none := if_neg h
def rtI (o : Option Nat) : Int := match o with | some n => (n : Int) | none => -1
/-plain-/
theorem aA : (([], (0, ([], ()))) : aX) = nd0 := rfl
theorem az : ((0, (0, ())) : dx) = kd0 := rfl
def rtP (m : Mly) (T : List aX) (f p : Nat) (ini cur : List Int) : Int :=
  match rtF m T f p ini cur with
  | some n => (n : Int)
  | none => if (p < T.length ∧ (T.getD p nd0).1 = ini ∧ cur.Nodup) ∧ (T.getD p nd0).2.1 = -1 then (p : Int) + 1 else 0
theorem da {m : Mly} {T : List aX} {f p n : Nat} {ini cur : List Int} (h : rtF m T f p ini cur = some n) : rtP m T f p ini cur = (n : Int) := by unfold rtP; rw [h]
theorem j6 {m : Mly} {T : List aX} {f p : Nat} {ini cur : List Int} (h : rtF m T f p ini cur = none) (h2 : ¬ ((p < T.length ∧ (T.getD p nd0).1 = ini ∧ cur.Nodup) ∧ (T.getD p nd0).2.1 = -1)) : rtP m T f p ini cur = 0 := by unfold rtP; rw [h]; exact if_neg h2
theorem gm {m : Mly} {T : List aX} {f p : Nat} {ini cur : List Int} (h : rtF m T f p ini cur = none) (h2 : (p < T.length ∧ (T.getD p nd0).1 = ini ∧ cur.Nodup) ∧ (T.getD p nd0).2.1 = -1) : rtP m T f p ini cur = (p : Int) + 1 := by unfold rtP; rw [h]; exact if_pos h2
structure TR12 (T : List aX) : Prop where
  len : T.length ≤ 4096
/-plain-/
def dO (T : List aX) (rec : Nat → Int) (p : Nat) (n : Int) (k : dx) : Int := if (p : Int) < k.2.1 ∧ k.2.1 < T.length then max n (1 + rec k.2.1.toNat) else n
def dpF (T : List aX) : Nat → Nat → Int
  | 0, _ => 0
  | f + 1, p => (T.getD p nd0).2.2.1.foldl (dO T (dpF T f) p) 0
theorem lj {T : List aX} {r1 r2 : Nat → Int} {p : Nat} (h : ∀ k, p < k → k < T.length → r1 k = r2 k) : ∀ (K : List dx) (n : Int), K.foldl (dO T r1 p) n = K.foldl (dO T r2 p) n
  | [], _ => rfl
  | k :: K, n => by
    have e : dO T r1 p n k = dO T r2 p n k := by
      unfold dO
      by_cases hk : (p : Int) < k.2.1 ∧ k.2.1 < T.length
      · rw [if_pos hk, if_pos hk, h _ (by omega) (by omega)]
      · rw [if_neg hk, if_neg hk]
    rw [List.foldl_cons, List.foldl_cons, e, lj h K]
theorem rG {T : List aX} : ∀ (f g p : Nat), p < T.length → T.length ≤ f + p → T.length ≤ g + p → dpF T f p = dpF T g p
  | 0, _, p, h, h1, _ => by omega
  | f + 1, 0, p, h, _, h2 => by omega
  | f + 1, g + 1, p, h, h1, h2 => lj (fun k hk hl => rG f g k hl (by omega) (by omega)) _ _
theorem kj {T : List aX} {r : Nat → Int} {p : Nat} (hp : p < T.length) (h : ∀ k, p < k → k < T.length → 0 ≤ r k ∧ r k + k < T.length) : ∀ (K : List dx) (n : Int), 0 ≤ n ∧ n + p < T.length → 0 ≤ K.foldl (dO T r p) n ∧ K.foldl (dO T r p) n + p < T.length
  | [], _, hn => hn
  | k :: K, n, hn => by
    rw [List.foldl_cons]
    refine kj hp h K _ ?_
    unfold dO
    split
    · rename_i hk
      have := h k.2.1.toNat (by omega) (by omega)
      omega
    · exact hn
theorem mq {T : List aX} : ∀ (f p : Nat), p < T.length → T.length ≤ f + p → 0 ≤ dpF T f p ∧ dpF T f p + p < T.length
  | 0, p, h, h1 => by omega
  | f + 1, p, h, h1 => kj h (fun k hk hl => mq f k hl (by omega)) _ _ ⟨Int.le_refl _, by omega⟩
def dpA (T : List aX) (p : Nat) : Int := dpF T (T.length - p) p
theorem Av {T : List aX} {p : Nat} (h : p < T.length) : dpA T p = (T.getD p nd0).2.2.1.foldl (dO T (dpA T) p) 0 := by
  show dpF T (T.length - p) p = _
  rw [show T.length - p = (T.length - p - 1) + 1 by omega]
  exact lj (fun k hk hl => rG _ _ k hl (by omega) (by omega)) _ _
theorem tq {T : List aX} {p : Nat} (h : p < T.length) : 0 ≤ dpA T p ∧ dpA T p + p < T.length := mq _ _ h (by omega)
theorem tI {K : List dx} {i : Nat} (h : i < K.length) : K.take (i + 1) = K.take i ++ [K.getD i kd0] := by
  rw [List.take_add_one]; simp [List.getD, h]
theorem tF {T : List aX} {r : Nat → Int} {p i : Nat} {K : List dx} (h : i < K.length) : (K.take (i + 1)).foldl (dO T r p) 0 = dO T r p ((K.take i).foldl (dO T r p) 0) (K.getD i kd0) := by
  rw [tI h, List.foldl_append]; rfl
def dpT (T : List aX) : Int := if T.length = 0 then 0 else dpA T 0
def dpV (T : List aX) (p : Nat) (x : Int) (q : Nat) : Int := if q < p then 0 else if q = p then x else if q < T.length then dpA T q else 0
def dpL (T : List aX) (p : Nat) (x : Int) : List Int := (List.range (T.length + 1)).map (dpV T p x)
theorem dh (T : List aX) (p : Nat) (x : Int) : (dpL T p x).length = T.length + 1 := by simp [dpL]
theorem nf (T : List aX) (p : Nat) (x : Int) (i : Nat) : (dpL T p x)[i]? = if i < T.length + 1 then some (dpV T p x i) else none := by
  unfold dpL
  rw [List.getElem?_map]
  by_cases h : i < T.length + 1
  · rw [if_pos h, List.getElem?_range h]; rfl
  · rw [if_neg h, List.getElem?_eq_none (by simpa using h)]; rfl
theorem zC {T : List aX} {p i : Nat} (h : i ≤ T.length) (x : Int) : (dpL T p x).getD i 0 = dpV T p x i := by
  rw [List.getD, nf, if_pos (by omega)]; rfl
theorem oK {T : List aX} {p : Nat} (h : p ≤ T.length) (x : Int) : (dpL T p x).getD p 0 = x := by
  rw [zC h]; unfold dpV; rw [if_neg (by omega), if_pos rfl]
theorem AN {T : List aX} {p k : Nat} (h : p < k) (hk : k < T.length) (x : Int) : (dpL T p x).getD k 0 = dpA T k := by
  rw [zC (by omega)]; unfold dpV; rw [if_neg (by omega), if_neg (by omega), if_pos hk]
theorem z4 {T : List aX} {p : Nat} (h : p ≤ T.length) (x y : Int) : (dpL T p x).set p y = dpL T p y := by
  apply List.ext_getElem?
  intro i
  rw [List.getElem?_set, nf, nf, dh]
  by_cases e : p = i
  · subst e
    rw [if_pos rfl, if_pos (by omega), if_pos (by omega)]
    unfold dpV; rw [if_neg (by omega), if_pos rfl]
  · rw [if_neg e]
    have : dpV T p x i = dpV T p y i := by
      unfold dpV
      by_cases e2 : i < p
      · rw [if_pos e2, if_pos e2]
      · rw [if_neg e2, if_neg e2, if_neg (fun h : i = p => e h.symm), if_neg (fun h : i = p => e h.symm)]
    rw [this]
theorem xQ {T : List aX} {p : Nat} (h : p + 1 ≤ T.length) : dpL T (p + 1) (if p + 1 = T.length then 0 else dpA T (p + 1)) = dpL T p 0 := by
  apply List.ext_getElem?
  intro i
  rw [nf, nf]
  have : dpV T (p + 1) (if p + 1 = T.length then 0 else dpA T (p + 1)) i = dpV T p 0 i := by
    unfold dpV
    by_cases e : i < p
    · rw [if_pos (show i < p + 1 by omega), if_pos e]
    · by_cases e2 : i = p
      · subst e2; rw [if_pos (show i < i + 1 by omega), if_neg e, if_pos rfl]
      · by_cases e3 : i = p + 1
        · subst e3
          rw [if_neg (show ¬ p + 1 < p + 1 by omega), if_pos rfl, if_neg e, if_neg e2]
          by_cases e4 : p + 1 = T.length
          · rw [if_pos e4, if_neg (by omega)]
          · rw [if_neg e4, if_pos (by omega)]
        · rw [if_neg (show ¬ i < p + 1 by omega), if_neg e3, if_neg e, if_neg e2]
  rw [this]
theorem yk (T : List aX) : dpL T T.length 0 = List.replicate (T.length + 1) 0 := by
  apply List.ext_getElem?
  intro i
  rw [nf, List.getElem?_replicate]
  by_cases h : i < T.length + 1
  · rw [if_pos h, if_pos h]
    unfold dpV
    by_cases e : i < T.length
    · rw [if_pos e]
    · rw [if_neg e, if_pos (by omega)]
  · rw [if_neg h, if_neg h]
/-plain-/
/-plain-/
def BC (m : Mly) (cl : List Int) : Bool := if AW m cl = 0 then (Bv m cl).isSome else false
/-plain-/
def SYM (n : Int) (w : List Int) : Prop := ∀ a, a ∈ w → 0 ≤ a ∧ a < n
structure SHW (m : Mly) (cl : List Int) (u v : List Int) : Prop where
  su : SYM m.inp u
  sv : SYM m.inp v
  lu : u.length ≤ 200
  lv : v.length = u.length
  pos : 0 < u.length
  ne : (m.go m.st u).2 ≠ (m.go m.st v).2
  im : u.map (fun a => cl.getD a.toNat 0) = v.map fun a => cl.getD a.toNat 0
theorem w9 {n i : Nat} : (List.replicate n (0 : Int)).getD i 0 = 0 := by
  by_cases h : i < n
  · simp [List.getD, h]
  · simp [List.getD, Nat.le_of_not_lt h]
/-plain-/
def lp (m : Mly) : List Int := if aT m = 0 then (nmS (wb m) m.inp.toNat).1 else []
def Bb (m : Mly) : Int := if aT m = 0 then ((nmS (wb m) m.inp.toNat).2.length : Int) else 0
/-plain-/
structure RUN (m : Mly) : Prop where
  len : (lp m).length = m.inp.toNat
  ce : qF (lp m) = 0
  ck : AR (lp m) = Bb m
  eq : ∀ c d : Nat, c < m.inp.toNat → d < m.inp.toNat → ((lp m).getD c 0 = (lp m).getD d 0 ↔ wb m c d = true)
  ch : AW m (lp m) = 0
  no : BC m (lp m) = false
/-plain-/
theorem uH {cl : List Int} (hb : ∀ q, q < cl.length → iw cl q = false) : ∀ k, k ≤ cl.length → ∀ v, 0 ≤ v → v < cN cl k → ∃ q, q < k ∧ cl.getD q 0 = v
  | 0, _, v, h0, h1 => by simp only [cN] at h1; omega
  | k + 1, hk, v, h0, h1 => by
    have h2 := hb k (by omega)
    simp only [iw, Bool.or_eq_false_iff, decide_eq_false_iff_not] at h2
    simp only [cN] at h1
    by_cases e : v < cN cl k
    · obtain ⟨q, q1, q2⟩ := uH hb k (by omega) v h0 e
      exact ⟨q, by omega, q2⟩
    · exact ⟨k, by omega, by omega⟩
theorem yH (cl : List Int) : ∀ k q, q < k → cl.getD q 0 < cN cl k
  | 0, q, h => by omega
  | k + 1, q, h => by
    simp only [cN]
    by_cases e : q = k
    · rw [e]; omega
    · have := yH cl k q (by omega); omega
theorem sP (cl : List Int) : ∀ k, 0 ≤ cN cl k
  | 0 => Int.le_refl _
  | k + 1 => by have := sP cl k; simp only [cN]; omega
structure STD (m : Mly) (C : List Int) (j : Nat) : Prop where
  len : C.length = m.inp.toNat
  ce : qF C = 0
  co : ∀ c d : Nat, c < m.inp.toNat → d < m.inp.toNat → wb m c d = true → C.getD c 0 = C.getD d 0
  ct : (j : Int) + 1 ≤ AR C
/-plain-/
theorem oQ (m : Mly) (cl : List Int) : ∀ k, k ≤ m.nx.length → cN (m.nextL cl) k = ((cY (m.sig cl) k).length : Int) ∧ ∀ q, q < k → iw (m.nextL cl) q = false
  | 0, _ => ⟨by simp [cN, cY], fun q h => by omega⟩
  | k + 1, h => by
    obtain ⟨i1, i2⟩ := oQ m cl k (by omega)
    have hv := iU (cl := cl) (s := k) (by omega : k < m.nx.length)
    by_cases hs : m.sig cl k ∈ cY (m.sig cl) k
    · have h1 := mQ (cl := cl) (by omega : k < m.nx.length) hs
      have h2 := gR hs
      rw [h1] at hv
      refine ⟨?_, fun q hq => ?_⟩
      · rw [dj, fW hs]; simp only [cN]; omega
      · by_cases e : q = k
        · subst e; exact oW (by omega) (by omega)
        · exact i2 q (by omega)
    · have h1 := jX (cl := cl) (by omega : k < m.nx.length) hs
      rw [h1] at hv
      refine ⟨?_, fun q hq => ?_⟩
      · rw [dj, eZ hs, aq]; simp only [cN, aw, aH]; omega
      · by_cases e : q = k
        · subst e; exact oW (by omega) (by omega)
        · exact i2 q (by omega)
theorem gI {m : Mly} (hm : MOK m) : ∀ q, q < m.eqc.length → iw m.eqc q = false := by
  obtain ⟨j, h1, h2, h3⟩ := kg hm
  rw [h1, jQ]
  cases j with
  | zero => exact fun q hq => oW (by show 0 ≤ (List.replicate _ (0 : Int)).getD q 0; rw [w9]; omega) (by show (List.replicate _ (0 : Int)).getD q 0 ≤ _; rw [w9]; exact sP _ _)
  | succ i => exact (oQ m (m.cls i) m.nx.length (Nat.le_refl _)).2
def dF (c : List Int) (k : Nat) : List Nat := (List.range k).filter fun s => decide (c.getD s 0 = cN c s)
theorem ng {c : List Int} {k : Nat} (h : c.getD k 0 = cN c k) : dF c (k + 1) = dF c k ++ [k] := by
  unfold dF; rw [List.range_succ, List.filter_append]; simp only [List.filter_cons, List.filter_nil, h, decide_true, if_true]
theorem mH {c : List Int} {k : Nat} (h : ¬ c.getD k 0 = cN c k) : dF c (k + 1) = dF c k := by
  unfold dF; rw [List.range_succ, List.filter_append]; simp only [List.filter_cons, List.filter_nil, decide_eq_false h, Bool.false_eq_true, if_false, List.append_nil]
structure REP (c : List Int) (k : Nat) : Prop where
  len : ((dF c k).length : Int) = cN c k
  at_ : ∀ r, r < (dF c k).length → (dF c k).getD r 0 < k ∧ c.getD ((dF c k).getD r 0) 0 = r
theorem ue {xs ys : List Nat} {i : Nat} (h : i < xs.length) : (xs ++ ys).getD i 0 = xs.getD i 0 := by simp [List.getD, List.getElem?_append_left h]
theorem sB {c : List Int} (hb : ∀ q, q < c.length → iw c q = false) : ∀ k, k ≤ c.length → REP c k
  | 0, _ => ⟨rfl, fun r h => by simp [dF] at h⟩
  | k + 1, h => by
    have ih := sB hb k (by omega)
    have h1 := hb k (by omega)
    simp only [iw, Bool.or_eq_false_iff, decide_eq_false_iff_not] at h1
    have hl := ih.len
    by_cases e : c.getD k 0 = cN c k
    · rw [show REP c (k + 1) = REP c (k + 1) from rfl]
      refine ⟨?_, fun r hr => ?_⟩
      · rw [ng e, aq]; simp only [aw, aH, cN]; omega
      · rw [ng e] at hr ⊢
        rw [aq] at hr; simp only [aw, aH] at hr
        by_cases e2 : r = (dF c k).length
        · have : (dF c k ++ [k]).getD r 0 = k := by subst e2; simp [List.getD]
          rw [this]; exact ⟨by omega, by omega⟩
        · rw [ue (by omega)]
          have := ih.at_ r (by omega)
          exact ⟨by omega, this.2⟩
    · refine ⟨?_, fun r hr => ?_⟩
      · rw [mH e]; simp only [cN]; omega
      · rw [mH e] at hr ⊢
        have := ih.at_ r hr
        exact ⟨by omega, this.2⟩
def Mly.f (t : Mly) (x : Int) : Int := t.eqc.getD x.toNat 0
def Mly.reps (t : Mly) : List Nat := dF t.eqc t.nx.length
def Mly.qm (t : Mly) : Mly := ⟨t.inp, 0, t.reps.map (fun s => (t.nx.getD s []).map t.f), t.reps.map fun s => t.ot.getD s []⟩
theorem gE {t : Mly} (ht : MOK t) : REP t.eqc t.nx.length := by
  have hl := (eY ht).len
  have := sB (gI ht) t.nx.length (by omega)
  exact this
theorem qd (t : Mly) : t.qm.nx.length = t.reps.length := by simp [Mly.qm]
theorem vU {t : Mly} {r : Nat} (h : r < t.reps.length) : t.qm.nx.getD r [] = (t.nx.getD (t.reps.getD r 0) []).map t.f := by
  show (t.reps.map _).getD r [] = _
  rw [eJ _ 0 _ h]
theorem vD {t : Mly} {r : Nat} (h : r < t.reps.length) : t.qm.ot.getD r [] = t.ot.getD (t.reps.getD r 0) [] := by
  show (t.reps.map _).getD r [] = _
  rw [eJ _ 0 _ h]
theorem mu {t : Mly} (ht : MOK t) {s : Int} (h0 : 0 ≤ s) (h1 : s < t.nx.length) : 0 ≤ t.f s ∧ t.f s < t.reps.length := by
  have hl := (gE ht).len
  have := yH t.eqc t.nx.length s.toNat (by omega)
  have h2 := (eY ht).rng s.toNat (by omega)
  unfold Mly.f Mly.reps
  omega
theorem Bh {t : Mly} (ht : MOK t) {s : Int} (h0 : 0 ≤ s) (h1 : s < t.nx.length) : t.reps.getD (t.f s).toNat 0 < t.nx.length ∧ t.f (t.reps.getD (t.f s).toNat 0 : Nat) = t.f s := by
  have hf := mu ht h0 h1
  have := (gE ht).at_ (t.f s).toNat (by have := hf.2; unfold Mly.reps at this; omega)
  refine ⟨this.1, ?_⟩
  show t.eqc.getD ((t.reps.getD (t.f s).toNat 0 : Nat) : Int).toNat 0 = _
  rw [ah]
  have h2 := this.2
  unfold Mly.reps
  rw [h2]; omega
theorem z5 {t : Mly} (ht : MOK t) : MOK t.qm := by
  have hq := qd t
  have hr := gE ht
  have hn1 := ht.n1; have hn2 := ht.n2
  have h0 := mu ht (s := 0) (by omega) (by omega)
  have hle : t.reps.length ≤ t.nx.length := by
    unfold Mly.reps dF
    exact Nat.le_trans (List.length_filter_le _ _) (by simp)
  have hol : t.qm.ot.length = t.reps.length := by simp [Mly.qm]
  have hat : ∀ r, r < t.reps.length → t.reps.getD r 0 < t.nx.length := fun r h => (hr.at_ r h).1
  refine ⟨ht.i1, ht.i2, by omega, by omega, Int.le_refl 0, by show (0 : Int) < _; omega, by omega, fun s hs => ?_, fun s hs => ?_, fun s a hs ha => ?_, fun s a hs ha => ?_⟩
  · rw [vU (by omega), aF]
    exact ht.rl _ (hat s (by omega))
  · rw [vD (by omega)]
    exact ht.ql _ (hat s (by omega))
  · have ha' : (a : Int) < t.inp := ha
    have h1 := ht.rl _ (hat s (by omega))
    rw [vU (by omega), eJ t.f 0 0 (by omega)]
    have h2 := ht.nr _ a (hat s (by omega)) ha'
    have := mu ht h2.1 h2.2
    omega
  · rw [vD (by omega)]
    exact ht.or _ a (hat s (by omega)) ha
theorem wK {t : Mly} (ht : MOK t) {s a : Int} (h0 : 0 ≤ s) (h1 : s < t.nx.length) (ha : 0 ≤ a ∧ a < t.inp) : t.qm.out (t.f s) a = t.out s a ∧ t.qm.nxt (t.f s) a = t.f (t.nxt s a) := by
  have hf := mu ht h0 h1
  obtain ⟨r1, r2⟩ := Bh ht h0 h1
  have e : t.eqc.getD (t.reps.getD (t.f s).toNat 0) 0 = t.eqc.getD s.toNat 0 := by
    have := r2
    unfold Mly.f at this
    rw [ah] at this
    exact this
  have hst := (eY ht).step _ s.toNat r1 (by omega) e a.toNat (by omega)
  have hrl := ht.rl _ r1
  constructor
  · show (t.qm.ot.getD (t.f s).toNat []).getD a.toNat 0 = _
    rw [vD (by omega), hst.1]; rfl
  · show (t.qm.nx.getD (t.f s).toNat []).getD a.toNat 0 = _
    rw [vU (by omega), eJ t.f 0 0 (by omega)]
    exact hst.2
theorem wS {t : Mly} (ht : MOK t) : ∀ (w : List Int) (s : Int), 0 ≤ s → s < t.nx.length → (∀ i : Nat, i < w.length → 0 ≤ w.getD i 0 ∧ w.getD i 0 < t.inp) → (t.qm.go (t.f s) w).2 = (t.go s w).2
  | [], s, _, _, _ => rfl
  | a :: w, s, h0, h1, hw => by
    obtain ⟨ha, hw2⟩ := pO hw
    obtain ⟨e1, e2⟩ := wK ht h0 h1 ha
    rw [fu, fu, e1, e2]
    have hn := ht.nr s.toNat a.toNat (by omega) (by omega)
    have := wS ht w (t.nxt s a) hn.1 hn.2 hw2
    rw [this]
theorem BL {t : Mly} (ht : MOK t) : ∀ i j : Int, 0 ≤ i → i < t.qm.nx.length → 0 ≤ j → j < t.qm.nx.length → EQV t.qm i j → i = j := by
  intro i j i0 i1 j0 j1 h
  have hq := qd t
  have ri := (gE ht).at_ i.toNat (by unfold Mly.reps at hq; omega)
  have rj := (gE ht).at_ j.toNat (by unfold Mly.reps at hq; omega)
  have fi : t.f (((dF t.eqc t.nx.length).getD i.toNat 0 : Nat) : Int) = i := by unfold Mly.f; rw [ah, ri.2]; omega
  have fj : t.f (((dF t.eqc t.nx.length).getD j.toNat 0 : Nat) : Int) = j := by unfold Mly.f; rw [ah, rj.2]; omega
  have hv : EQV t (((dF t.eqc t.nx.length).getD i.toNat 0 : Nat) : Int) (((dF t.eqc t.nx.length).getD j.toNat 0 : Nat) : Int) := fun w hw => by
    have g1 := wS ht w (((dF t.eqc t.nx.length).getD i.toNat 0 : Nat) : Int) (Int.natCast_nonneg _) (by have := ri.1; omega) hw
    have g2 := wS ht w (((dF t.eqc t.nx.length).getD j.toNat 0 : Nat) : Int) (Int.natCast_nonneg _) (by have := rj.1; omega) hw
    rw [fi] at g1; rw [fj] at g2
    rw [← g1, ← g2]
    exact h w hw
  have := (m7 ht (Int.natCast_nonneg _) (by have := ri.1; omega) (Int.natCast_nonneg _) (by have := rj.1; omega)).2 hv
  rw [← fi, ← fj]; exact this
/-plain-/
abbrev PP := Int × Int
abbrev SYS := PP → Nat → PP × Int
def d0 : PP := (0, 0)
def bL (F : SYS) (p : PP) (l : List PP) (x : Nat) : List PP := (List.range x).foldl (fun l y => fT l (F p y).1) l
def bN (F : SYS) (p : PP) (l : List PP) (x : Nat) : List Int := (List.range x).map fun y => (pos (bL F p l y) (F p y).1 : Int)
def bO (F : SYS) (p : PP) (x : Nat) : List Int := (List.range x).map fun y => (F p y).2
def bX (F : SYS) (p : PP) (l : List PP) (y : Nat) : Bool := decide (128 < (bL F p l (y + 1)).length) || decide (1048576 < (F p y).2)
abbrev BST := List PP × (List (List Int) × List (List Int))
def bA (F : SYS) (n i : Nat) (s : BST) : BST := (bL F (s.1.getD i d0) s.1 n, s.2.1 ++ [bN F (s.1.getD i d0) s.1 n], s.2.2 ++ [bO F (s.1.getD i d0) n])
def bF (F : SYS) (n : Nat) : Nat → Nat → BST → Option BST
  | 0, _, _ => none
  | f + 1, i, s => if i < s.1.length then if (List.range n).any (bX F (s.1.getD i d0) s.1) = true then none else bF F n f (i + 1) (bA F n i s) else some s
def bR (F : SYS) (n : Nat) (p0 : PP) : Option BST := bF F n 130 0 ([p0], [], [])
theorem jE (F : SYS) (p : PP) (l : List PP) (x : Nat) : bL F p l (x + 1) = fT (bL F p l x) (F p x).1 := by
  unfold bL; rw [List.range_succ, List.foldl_append]; rfl
theorem rZ {α : Type} [DecidableEq α] (l : List α) (x : α) : ∃ k, fT l x = l ++ k := vL [x] l
theorem lM (F : SYS) (p : PP) (l : List PP) : ∀ x, ∃ k, bL F p l x = l ++ k
  | 0 => ⟨[], by simp [bL]⟩
  | x + 1 => by
    obtain ⟨k, e⟩ := lM F p l x
    obtain ⟨k', e'⟩ := rZ (bL F p l x) (F p x).1
    exact ⟨k ++ k', by rw [jE, e', e, List.append_assoc]⟩
theorem pu (F : SYS) (p : PP) (l : List PP) (x : Nat) : ∀ d, ∃ k, bL F p l (x + d) = bL F p l x ++ k
  | 0 => ⟨[], by simp⟩
  | d + 1 => by
    obtain ⟨k, e⟩ := pu F p l x d
    obtain ⟨k', e'⟩ := rZ (bL F p l (x + d)) (F p (x + d)).1
    exact ⟨k ++ k', by rw [← Nat.add_assoc, jE, e', e, List.append_assoc]⟩
theorem yp (F : SYS) (p : PP) (l : List PP) (x : Nat) : l.length ≤ (bL F p l x).length := by
  obtain ⟨k, e⟩ := lM F p l x
  rw [e, aq]; omega
theorem oA (F : SYS) (p : PP) {l : List PP} (x : Nat) {i : Nat} (h : i < l.length) : (bL F p l x).getD i d0 = l.getD i d0 := by
  obtain ⟨k, e⟩ := lM F p l x
  rw [e]; simp [List.getD, List.getElem?_append_left h]
theorem yJ (F : SYS) (p : PP) (l : List PP) {x y : Nat} (h : y < x) : (F p y).1 ∈ bL F p l x := by
  obtain ⟨k, e⟩ := pu F p l (y + 1) (x - (y + 1))
  rw [show x = y + 1 + (x - (y + 1)) by omega, e, List.mem_append, jE, se]
  exact .inl (.inr rfl)
theorem qv (F : SYS) (p : PP) {l : List PP} (h : l.Nodup) : ∀ x, (bL F p l x).Nodup
  | 0 => by simpa [bL] using h
  | x + 1 => by rw [jE]; exact uZ (qv F p h x) _
theorem yc {α : Type} [DecidableEq α] (l : List α) (x : α) : pos (fT l x) x = pos l x := by
  by_cases h : x ∈ l
  · rw [fW h]
  · rw [eZ h, r0 h, uS h]
theorem A5 (F : SYS) (p : PP) (l : List PP) {x y : Nat} (h : y < x) : pos (bL F p l x) (F p y).1 = pos (bL F p l y) (F p y).1 := by
  obtain ⟨k, e⟩ := pu F p l (y + 1) (x - (y + 1))
  rw [show x = y + 1 + (x - (y + 1)) by omega, e, ii _ (yJ F p l (Nat.lt_succ_self y)), jE, yc]
structure BOK (F : SYS) (n : Nat) (p0 : PP) (i : Nat) (s : BST) : Prop where
  nd : s.1.Nodup
  le : s.1.length ≤ 128
  nl : s.2.1.length = i
  ol : s.2.2.length = i
  il : i ≤ s.1.length
  hd : s.1.getD 0 d0 = p0
  h0 : 0 < s.1.length
  nx : ∀ j, j < i → s.2.1.getD j [] = (List.range n).map fun x => (pos s.1 (F (s.1.getD j d0) x).1 : Int)
  ot : ∀ j, j < i → s.2.2.getD j [] = (List.range n).map fun x => (F (s.1.getD j d0) x).2
  cl : ∀ j x, j < i → x < n → (F (s.1.getD j d0) x).1 ∈ s.1
  bd : ∀ j x, j < i → x < n → (F (s.1.getD j d0) x).2 ≤ 1048576
theorem dD {α : Type} {l : List α} {y d : α} {i : Nat} (h : i < l.length) : (l ++ [y]).getD i d = l.getD i d := by simp [List.getD, List.getElem?_append_left h]
theorem gv {α : Type} {l : List α} {y d : α} {i : Nat} (h : i = l.length) : (l ++ [y]).getD i d = y := by subst h; simp [List.getD]
theorem zi {F : SYS} {p : PP} {l : List PP} {n : Nat} (h : (List.range n).any (bX F p l) = false) {y : Nat} (hy : y < n) : (bL F p l (y + 1)).length ≤ 128 ∧ (F p y).2 ≤ 1048576 := by
  rw [List.any_eq_false] at h
  have := h y (by simpa using hy)
  simp only [bX, Bool.not_eq_true, Bool.or_eq_false_iff, decide_eq_false_iff_not] at this
  omega
theorem Ba {F : SYS} {p : PP} {l : List PP} {n : Nat} (hl : l.length ≤ 128) (h : (List.range n).any (bX F p l) = false) : (bL F p l n).length ≤ 128 := by
  cases n with
  | zero => simpa [bL] using hl
  | succ n => exact (zi h (Nat.lt_succ_self n)).1
theorem BOK.step {F : SYS} {n : Nat} {p0 : PP} {i : Nat} {s : BST} (h : BOK F n p0 i s) (hi : i < s.1.length) (hb : (List.range n).any (bX F (s.1.getD i d0) s.1) = false) : BOK F n p0 (i + 1) (bA F n i s) where
  nd := qv F _ h.nd n
  le := Ba h.le hb
  nl := by simp [bA, h.nl]
  ol := by simp [bA, h.ol]
  il := Nat.le_trans hi (yp F _ s.1 n)
  hd := by simp only [bA]; rw [oA F _ n h.h0]; exact h.hd
  h0 := Nat.lt_of_lt_of_le h.h0 (yp F _ s.1 n)
  nx := fun j hj => by
    simp only [bA]
    rw [oA F _ n (show j < s.1.length by omega)]
    by_cases e : j = i
    · rw [gv (by rw [h.nl, e]), e]
      exact List.map_congr_left fun x hx => by rw [A5 F _ s.1 (List.mem_range.1 hx)]
    · have hji : j < i := by omega
      rw [dD (by rw [h.nl]; exact hji), h.nx j hji]
      refine List.map_congr_left fun x hx => ?_
      obtain ⟨k, ek⟩ := lM F (s.1.getD i d0) s.1 n
      rw [ek, ii _ (h.cl j x hji (List.mem_range.1 hx))]
  ot := fun j hj => by
    simp only [bA]
    rw [oA F _ n (show j < s.1.length by omega)]
    by_cases e : j = i
    · rw [gv (by rw [h.ol, e]), e]; rfl
    · rw [dD (by rw [h.ol]; omega), h.ot j (by omega)]
  cl := fun j x hj hx => by
    simp only [bA]
    rw [oA F _ n (show j < s.1.length by omega)]
    by_cases e : j = i
    · rw [e]; exact yJ F _ s.1 hx
    · obtain ⟨k, ek⟩ := lM F (s.1.getD i d0) s.1 n
      rw [ek, List.mem_append]
      exact .inl (h.cl j x (by omega) hx)
  bd := fun j x hj hx => by
    simp only [bA]
    rw [oA F _ n (show j < s.1.length by omega)]
    by_cases e : j = i
    · rw [e]; exact (zi hb hx).2
    · exact h.bd j x (by omega) hx
section
variable {F : SYS} {n : Nat} {p0 : PP} {s : BST} (h : bR F n p0 = some s)
include h
end
/-plain-/
abbrev STP := PP → Nat → PP
abbrev W3 := PP × List Int
def w30 : W3 := (d0, [])
def dIn (l : List W3) (q : PP) : Bool := l.any fun f => decide (f.1 = q)
def dSt (A : STP) (e : W3) (l : List W3) (x : Nat) : List W3 := if dIn l (A e.1 x) = true then l else l ++ [(A e.1 x, e.2 ++ [(x : Int)])]
def js (A : STP) (e : W3) (l : List W3) (x : Nat) : List W3 := (List.range x).foldl (dSt A e) l
theorem tP {l : List W3} {q : PP} : dIn l q = true ↔ q ∈ l.map Prod.fst := by
  unfold dIn
  rw [List.any_eq_true, List.mem_map]
  constructor
  · rintro ⟨e, he, h⟩; exact ⟨e, he, by simpa using h⟩
  · rintro ⟨e, he, h⟩; exact ⟨e, he, by simpa using h⟩
theorem sY {A : STP} {e : W3} {l : List W3} {x : Nat} (h : A e.1 x ∈ l.map Prod.fst) : dSt A e l x = l := if_pos (tP.2 h)
theorem pA {A : STP} {e : W3} {l : List W3} {x : Nat} (h : A e.1 x ∉ l.map Prod.fst) : dSt A e l x = l ++ [(A e.1 x, e.2 ++ [(x : Int)])] := if_neg fun k => h (tP.1 k)
theorem jh (A : STP) (e : W3) (l : List W3) (x : Nat) : js A e l (x + 1) = dSt A e (js A e l x) x := by
  unfold js; rw [List.range_succ, List.foldl_append]; rfl
theorem ye (A : STP) (e : W3) (l : List W3) (x : Nat) : ∃ k, dSt A e l x = l ++ k := by
  unfold dSt; split
  · exact ⟨[], by simp⟩
  · exact ⟨_, rfl⟩
theorem pD (A : STP) (e : W3) (l : List W3) (x : Nat) : ∀ d, ∃ k, js A e l (x + d) = js A e l x ++ k
  | 0 => ⟨[], by simp⟩
  | d + 1 => by
    obtain ⟨k, h⟩ := pD A e l x d
    obtain ⟨k', h'⟩ := ye A e (js A e l (x + d)) (x + d)
    exact ⟨k ++ k', by rw [← Nat.add_assoc, jh, h', h, List.append_assoc]⟩
theorem xx (A : STP) (e : W3) (l : List W3) (x : Nat) : ∃ k, js A e l x = l ++ k := by
  obtain ⟨k, h⟩ := pD A e l 0 x
  rw [Nat.zero_add] at h
  exact ⟨k, h⟩
def inR (n1 n2 : Nat) (q : PP) : Prop := (0 ≤ q.1 ∧ q.1 < n1) ∧ 0 ≤ q.2 ∧ q.2 < n2
structure DW (n1 n2 : Nat) (l : List W3) : Prop where
  nd : (l.map Prod.fst).Nodup
  rg : ∀ e, e ∈ l → inR n1 n2 e.1
  wl : ∀ e, e ∈ l → e.2.length < l.length
theorem ta {l : List W3} {i : Nat} (h : i < l.length) : l.getD i w30 ∈ l := by simp [List.getD, h]
theorem DW.le {n1 n2 : Nat} {l : List W3} (h : DW n1 n2 l) : l.length ≤ n1 * n2 := by
  have hnd : ((l.map Prod.fst).map fun q : PP => q.1 * (n2 : Int) + q.2).Nodup := by
    rw [List.nodup_iff_pairwise_ne, List.pairwise_map]
    refine List.Pairwise.imp_of_mem (fun {a b} ha hb hab => ?_) (List.nodup_iff_pairwise_ne.1 h.nd)
    intro e
    obtain ⟨ea, hea, rfl⟩ := List.mem_map.1 ha
    obtain ⟨eb, heb, rfl⟩ := List.mem_map.1 hb
    have := qV (h.rg ea hea).2 (h.rg eb heb).2 e
    exact hab (Prod.ext this.1 this.2)
  have := eR (n1 * n2) _ hnd (fun x hx => by
    obtain ⟨q, hq, rfl⟩ := List.mem_map.1 hx
    obtain ⟨e, he, rfl⟩ := List.mem_map.1 hq
    have hr := h.rg e he
    have := uq hr.1 hr.2
    rw [Int.natCast_mul]; exact this)
  simpa using this
theorem DW.step {n1 n2 n : Nat} {A : STP} (hA : ∀ q, inR n1 n2 q → ∀ x, x < n → inR n1 n2 (A q x)) {l : List W3} (h : DW n1 n2 l) {e : W3} (he : e ∈ l) {x : Nat} (hx : x < n) : DW n1 n2 (dSt A e l x) := by
  by_cases hin : A e.1 x ∈ l.map Prod.fst
  · rw [sY hin]; exact h
  · rw [pA hin]
    refine ⟨?_, fun f hf => ?_, fun f hf => ?_⟩
    · rw [List.map_append, aI, bl, List.nodup_append]
      refine ⟨h.nd, by simp, fun a ha b hb => ?_⟩
      simp at hb; subst hb
      intro hab; subst hab; exact hin ha
    · rcases List.mem_append.1 hf with hf | hf
      · exact h.rg f hf
      · simp at hf; subst hf; exact hA _ (h.rg e he) x hx
    · rw [aq, List.length_singleton]
      rcases List.mem_append.1 hf with hf | hf
      · have := h.wl f hf; omega
      · simp at hf; subst hf
        have := h.wl e he
        simp only [aq, List.length_singleton]; omega
theorem DW.row {n1 n2 n : Nat} {A : STP} (hA : ∀ q, inR n1 n2 q → ∀ x, x < n → inR n1 n2 (A q x)) {l : List W3} (h : DW n1 n2 l) {i : Nat} (hi : i < l.length) : ∀ x, x ≤ n → DW n1 n2 (js A (l.getD i w30) l x)
  | 0, _ => by simpa [js] using h
  | x + 1, hx => by
    rw [jh]
    refine (h.row hA hi x (by omega)).step hA ?_ (by omega)
    obtain ⟨k, e⟩ := xx A (l.getD i w30) l x
    rw [e]; exact List.mem_append.2 (.inl (ta hi))
/-plain-/
/-plain-/
/-plain-/
/-plain-/
def hF (h : PP → PP) (l : List W3) : List PP := l.map fun e => h e.1
structure HOM (A B : STP) (n : Nat) (I : PP → Prop) (h : PP → PP) : Prop where
  cl : ∀ p, I p → ∀ x, x < n → I (A p x)
  eq : ∀ p, I p → ∀ x, x < n → B (h p) x = h (A p x)
/-plain-/
theorem Bq {xs ys : List Int} (h : xs.length = ys.length) (h2 : ∀ i, i < xs.length → xs.getD i 0 = ys.getD i 0) : xs = ys := by
  refine List.ext_getElem h fun i h1 h3 => ?_
  have := h2 i h1
  simpa [List.getD, h1, h3] using this
/-plain-/
def dd (f : Int → Int) (l : List Int) : List Int := (l.map f).foldl bU []
theorem wB (f : Int → Int) (l : List Int) (x : Int) : dd f (l ++ [x]) = bU (dd f l) (f x) := by
  unfold dd; rw [List.map_append, List.foldl_append]; rfl
theorem wM {f : Int → Int} {l : List Int} {y : Int} : y ∈ dd f l ↔ ∃ x, x ∈ l ∧ f x = y := by
  unfold dd; rw [gl, List.mem_map]; simp
theorem uo (f : Int → Int) : ∀ (r l : List Int), (r.map f).foldl bU (dd f l) = dd f (r.foldl bU l)
  | [], _ => rfl
  | x :: r, l => by
    rw [aI, List.foldl_cons, List.foldl_cons, ← uo f r (bU l x)]
    congr 1
    by_cases h : x ∈ l
    · rw [fP h, fP (wM.2 ⟨x, h, rfl⟩)]
    · rw [eH h, wB]
theorem uU : ∀ (r l : List Int), (∀ x, x ∈ r → x ∈ l) → r.foldl bU l = l
  | [], _, _ => rfl
  | x :: r, l, h => by
    rw [List.foldl_cons, fP (h x (by simp))]
    exact uU r l fun y hy => h y (by simp [hy])
theorem mm (c : List Int) {a : Nat} : ∀ {b : Nat}, a ≤ b → cN c a ≤ cN c b
  | 0, h => by
    have : a = 0 := by omega
    subst this; exact Int.le_refl _
  | b + 1, h => by
    by_cases e : a = b + 1
    · subst e; exact Int.le_refl _
    · have := mm c (a := a) (b := b) (by omega)
      simp only [cN]; omega
theorem th {t : Mly} (ht : MOK t) : ∀ k, k ≤ t.nx.length → dd t.f (rgI k) = rgI (cN t.eqc k).toNat
  | 0, _ => rfl
  | k + 1, h => by
    have hl := (eY ht).len
    have h1 := gI ht k (by omega)
    simp only [iw, Bool.or_eq_false_iff, decide_eq_false_iff_not] at h1
    have hn := sP t.eqc k
    have hf : t.f (k : Int) = t.eqc.getD k 0 := by unfold Mly.f; rw [ah]
    rw [rN, wB, th ht k (by omega), hf]
    by_cases e : t.eqc.getD k 0 = cN t.eqc k
    · rw [eH (fun hm => by have := gZ.1 hm; omega), show (cN t.eqc (k + 1)).toNat = (cN t.eqc k).toNat + 1 by simp only [cN]; omega, rN, e, Int.toNat_of_nonneg hn]
    · rw [fP (gZ.2 ⟨by omega, by omega⟩), show (cN t.eqc (k + 1)).toNat = (cN t.eqc k).toNat by simp only [cN]; omega]
theorem oZ {t : Mly} (ht : MOK t) {s : Int} (h0 : 0 ≤ s) (h1 : s < t.nx.length) : t.qm.row (t.f s) = (t.row s).map t.f := by
  have hf := mu ht h0 h1
  have hq := qd t
  have hi1 := ht.i1
  have r1 : ((t.qm.row (t.f s)).length : Int) = t.inp := (z5 ht).rl (t.f s).toNat (by omega)
  have r2 : ((t.row s).length : Int) = t.inp := ht.rl s.toNat (by omega)
  refine Bq (by rw [aF]; omega) fun a ha => ?_
  rw [eJ t.f 0 0 (by omega)]
  have := (wK ht h0 h1 (a := (a : Int)) ⟨by omega, by omega⟩).2
  exact this
theorem yn {t : Mly} (ht : MOK t) (hr : t.reach = rgI t.nx.length) : ∀ (g i : Nat) (L : List Int), t.nx.length < g + i → t.rf g i L = t.reach → L = rgI L.length → L.length ≤ t.nx.length → i ≤ L.length →
    (∀ j : Nat, j < i → ∀ x, x ∈ t.row j → x ∈ L) → ∀ F, t.reps.length < F + (cN t.eqc i).toNat → t.qm.rf F (cN t.eqc i).toNat (dd t.f L) = dd t.f t.reach
  | 0, i, L, hg, _, _, hL, hi, _, F, _ => by omega
  | g + 1, i, L, hg, hrf, hp, hL, hi, hcl, F, hF => by
    have hlen := (eY ht).len
    have hK := (gE ht).len
    have hnn := sP t.eqc i
    have hdd : dd t.f L = rgI (cN t.eqc L.length).toNat := by
      have := th ht L.length hL
      rwa [← hp] at this
    by_cases hil : i < L.length
    · have hLi : L.getD i 0 = (i : Int) := by rw [hp]; exact oe hil
      rw [gD t g i L hil, hLi] at hrf
      have hmi : (i : Int) ∈ L := by rw [← hLi]; exact bn hil
      have h1 := gI ht i (by omega)
      simp only [iw, Bool.or_eq_false_iff, decide_eq_false_iff_not] at h1
      have hm1 := mm t.eqc (a := i + 1) (b := L.length) (by omega)
      have hm2 := mm t.eqc (a := i) (b := t.nx.length) (by omega)
      have hpre : ∃ k, (t.row i).foldl bU L ++ k = rgI t.nx.length := by
        obtain ⟨k, e⟩ := kh t g (i + 1) ((t.row i).foldl bU L)
        exact ⟨k, by rw [← e, hrf, hr]⟩
      obtain ⟨k, hk⟩ := hpre
      have hp2 := oE hk
      have hL2 : ((t.row i).foldl bU L).length ≤ t.nx.length := by
        have := congrArg List.length hk
        rw [aq, db] at this; omega
      have hge := lU (t.row i) L
      have hcl2 : ∀ j : Nat, j < i + 1 → ∀ x, x ∈ t.row j → x ∈ (t.row i).foldl bU L := fun j hj x hx => by
        by_cases e : j = i
        · subst e; exact gl.2 (.inr hx)
        · exact gl.2 (.inl (hcl j (by omega) x hx))
      have hfi : t.f (i : Int) = t.eqc.getD i 0 := by unfold Mly.f; rw [ah]
      have hfold := uo t.f (t.row i) L
      by_cases e : t.eqc.getD i 0 = cN t.eqc i
      · have ec : (cN t.eqc (i + 1)).toNat = (cN t.eqc i).toNat + 1 := by simp only [cN]; omega
        have hKb : (cN t.eqc i).toNat < t.reps.length := by
          have := mm t.eqc (a := i + 1) (b := t.nx.length) (by omega)
          unfold Mly.reps; omega
        obtain ⟨F2, rfl⟩ : ∃ F2, F = F2 + 1 := ⟨F - 1, by omega⟩
        have hlt : (cN t.eqc i).toNat < (dd t.f L).length := by rw [hdd, db]; omega
        rw [gD t.qm F2 _ _ hlt]
        have hat : (dd t.f L).getD (cN t.eqc i).toNat 0 = t.f (i : Int) := by
          rw [hdd, oe (by rw [hdd, db] at hlt; exact hlt), hfi]; omega
        rw [hat, oZ ht (by omega) (by omega), hfold, ← ec]
        exact yn ht hr g (i + 1) _ (by omega) hrf hp2 hL2 (by omega) hcl2 F2 (by omega)
      · have ec : (cN t.eqc (i + 1)).toNat = (cN t.eqc i).toNat := by simp only [cN]; omega
        obtain ⟨q, q1, q2⟩ := uH (gI ht) i (by omega) (t.eqc.getD i 0) (by omega) (by omega)
        have hfq : t.f (q : Int) = t.f (i : Int) := by rw [hfi, ← q2]; unfold Mly.f; rw [ah]
        have hrow : (t.row i).map t.f = (t.row q).map t.f := by
          rw [← oZ ht (by omega) (by omega), ← oZ ht (by omega) (by omega), hfq]
        have hin : ((t.row i).map t.f).foldl bU (dd t.f L) = dd t.f L := uU _ _ fun y hy => by
          rw [hrow, List.mem_map] at hy
          obtain ⟨x, hx, rfl⟩ := hy
          exact wM.2 ⟨x, hcl q q1 x hx, rfl⟩
        rw [hfold] at hin
        rw [← hin, ← ec]
        exact yn ht hr g (i + 1) _ (by omega) hrf hp2 hL2 (by omega) hcl2 F (by omega)
    · have hie : i = L.length := by omega
      rw [fx t _ _ _ (by omega)] at hrf
      rw [fx t.qm _ _ _ (by rw [hdd, db, hie]; exact Nat.le_refl _), ← hrf]
theorem Bn {t : Mly} (ht : MOK t) (hs : t.st = 0) (hr : t.reach = rgI t.nx.length) : CAN t.qm := by
  have hlen := (eY ht).len
  have hn1 := ht.n1
  have hK := (gE ht).len
  refine ⟨z5 ht, rfl, ?_, BL ht⟩
  have h0 := gI ht 0 (by omega)
  simp only [iw, Bool.or_eq_false_iff, decide_eq_false_iff_not] at h0
  have hz0 : cN t.eqc 0 = 0 := rfl
  have hf0 : t.f 0 = 0 := by unfold Mly.f; show t.eqc.getD 0 0 = 0; omega
  have hd0 : dd t.f [0] = [0] := by show bU [] (t.f 0) = _; rw [hf0]; rfl
  have hrf : t.rf (t.nx.length + 1) 0 [0] = t.reach := by rw [dG (dn ht), hs]
  have := yn ht hr (t.nx.length + 1) 0 [0] (by omega) hrf rfl (by simpa using hn1) (by simp) (fun j hj => by omega) (t.reps.length + 1) (by simp only [cN]; omega)
  rw [hd0] at this
  rw [dG (dn (z5 ht)), qd]
  show t.qm.rf (t.reps.length + 1) 0 [0] = _
  rw [show (cN t.eqc 0).toNat = 0 from rfl] at this
  rw [this, hr, th ht _ (Nat.le_refl _)]
  congr 1
  unfold Mly.reps; omega
def Mly.minm (m : Mly) : Mly := m.T.qm
theorem uF {m : Mly} (hm : MOK m) : CAN m.minm := Bn (rn hm) rfl (by rw [zH hm, sN]; rfl)
theorem oq {m : Mly} (hm : MOK m) (w : List Int) (hw : ∀ i : Nat, i < w.length → 0 ≤ w.getD i 0 ∧ w.getD i 0 < m.inp) : (m.minm.go 0 w).2 = (m.go m.st w).2 := by
  have ht := rn hm
  have hn := ht.n1
  have hlen := (eY ht).len
  have h0 := gI ht 0 (by omega)
  simp only [iw, Bool.or_eq_false_iff, decide_eq_false_iff_not] at h0
  have hz0 : cN m.T.eqc 0 = 0 := rfl
  have hf0 : m.T.f 0 = 0 := by unfold Mly.f; show m.T.eqc.getD 0 0 = 0; omega
  have h1 := wS ht w 0 (by omega) (by omega) hw
  rw [hf0] at h1
  obtain ⟨k, hk⟩ := iN hm
  have h2 := (ut hm (s := m.st) (by rw [hk]; simp) w hw).2.2
  rw [zl hm] at h2
  exact h1.trans h2
theorem Ai {a b : Mly} (ha : MOK a) (hb : MOK b) (hi : a.inp = b.inp) : EQ2 a b a.st b.st ↔ EQ2 a.minm b.minm 0 0 := by
  constructor
  · intro h w hw
    rw [oq ha w hw, oq hb w (by rw [← hi]; exact hw)]; exact h w hw
  · intro h w hw
    rw [← oq ha w hw, ← oq hb w (by rw [← hi]; exact hw)]; exact h w hw
theorem xF {a b : Mly} (ha : MOK a) (hb : MOK b) (hi : a.inp = b.inp) : EQ2 a b a.st b.st ↔ a.minm = b.minm := by
  rw [Ai ha hb hi]
  constructor
  · intro h
    obtain ⟨e1, e2⟩ := A3 (uF ha) (uF hb) hi h
    show (⟨a.inp, 0, a.minm.nx, a.minm.ot⟩ : Mly) = ⟨b.inp, 0, b.minm.nx, b.minm.ot⟩
    rw [hi, e1, e2]
  · intro h w _
    rw [h]
/-plain-/
def Mly.qN (t : Mly) (k : Nat) : List (List Int) := (dF t.eqc k).map fun s => (t.nx.getD s []).map t.f
def Mly.qO (t : Mly) (k : Nat) : List (List Int) := (dF t.eqc k).map fun s => t.ot.getD s []
theorem AK (t : Mly) (k : Nat) : (t.qN k).length = (dF t.eqc k).length := by simp [Mly.qN]
theorem A4 (t : Mly) (k : Nat) : (t.qO k).length = (dF t.eqc k).length := by simp [Mly.qO]
theorem oh {t : Mly} {k : Nat} (h : t.eqc.getD k 0 = cN t.eqc k) : t.qN (k + 1) = t.qN k ++ [(t.nx.getD k []).map t.f] ∧ t.qO (k + 1) = t.qO k ++ [t.ot.getD k []] := by
  unfold Mly.qN Mly.qO; rw [ng h, List.map_append, List.map_append]; exact ⟨rfl, rfl⟩
theorem og {t : Mly} {k : Nat} (h : ¬ t.eqc.getD k 0 = cN t.eqc k) : t.qN (k + 1) = t.qN k ∧ t.qO (k + 1) = t.qO k := by
  unfold Mly.qN Mly.qO; rw [mH h]; exact ⟨rfl, rfl⟩
def Mly.mres (m : Mly) : Mly := if aT m = 0 then m.minm else ⟨0, 0, [], []⟩
theorem mG {m : Mly} (h : ¬ aT m = 0) : m.mres = ⟨0, 0, [], []⟩ := if_neg h
theorem uw {m : Mly} (h : aT m = 0) : m.mres = m.trim.qm := by unfold Mly.mres; rw [if_pos h, wD h]; rfl
theorem yF (c : List Int) (k : Nat) : (dF c k).length ≤ k := by
  unfold dF; exact Nat.le_trans (List.length_filter_le _ _) (by simp)
/-plain-/
def mnB (m : Mly) : Bool := decide (aT m = 0) && (decide (m.reach.length = m.nx.length) && decide (m.mres.nx.length = m.nx.length))
def dQ (m : Mly) : Int := if ¬ aT m = 0 then aT m else if mnB m = true then 0 else 1
theorem Bc {m : Mly} (h : ¬ aT m = 0 ∨ ¬ m.reach.length = m.nx.length) : mnB m = false := by
  unfold mnB
  rcases h with h | h
  · rw [decide_eq_false h]; rfl
  · rw [decide_eq_false h]; simp
theorem B0 {m : Mly} (h : aT m = 0) (h2 : m.reach.length = m.nx.length) : mnB m = decide (m.mres.nx.length = m.nx.length) := by
  unfold mnB; rw [decide_eq_true h, decide_eq_true h2]; rfl
/-plain-/
def smB (m : Mly) (cl : List Int) (s t a : Nat) : Prop := cl.getD s 0 = cl.getD t 0 ∧ ∀ b : Nat, b < a → (m.ot.getD s []).getD b 0 = (m.ot.getD t []).getD b 0 ∧ cl.getD ((m.nx.getD s []).getD b 0).toNat 0 = cl.getD ((m.nx.getD t []).getD b 0).toNat 0
theorem x6 {m : Mly} {cl : List Int} {s t a : Nat} (h : smB m cl s t a) : smB m cl s t (a + 1) ↔ ((m.ot.getD s []).getD a 0 = (m.ot.getD t []).getD a 0 ∧ cl.getD ((m.nx.getD s []).getD a 0).toNat 0 = cl.getD ((m.nx.getD t []).getD a 0).toNat 0) := by
  constructor
  · intro h2; exact h2.2 a (by omega)
  · intro h2
    refine ⟨h.1, fun b hb => ?_⟩
    by_cases e : b = a
    · rw [e]; exact h2
    · exact h.2 b (by omega)
theorem z9 {m : Mly} (hm : MOK m) {i s t : Nat} (hs : s < m.nx.length) (ht : t < m.nx.length) : smB m (m.cls i) s t m.inp.toNat ↔ m.sig (m.cls i) s = m.sig (m.cls i) t := by
  constructor
  · intro h; exact (kA hm).2 fun a ha => h.2 a (by omega)
  · intro h
    have h1 := (kA hm).1 h
    refine ⟨?_, fun b hb => h1 b (by omega)⟩
    exact iQ hm i s t hs ht ((gg hs ht).2 h)
theorem xh {m : Mly} {cl : List Int} {s t a b : Nat} (hab : a ≤ b) (h : ¬ smB m cl s t a) : ¬ smB m cl s t b := fun h2 => h ⟨h2.1, fun c hc => h2.2 c (by omega)⟩
def fnF (m : Mly) (cl : List Int) (s k : Nat) (fd : Int) : Prop := (fd = -1 ∧ ∀ t, k ≤ t → t < s → m.sig cl s ≠ m.sig cl t) ∨ (fd = (m.nextL cl).getD s 0 ∧ ∃ t, k ≤ t ∧ t < s ∧ m.sig cl s = m.sig cl t)
theorem Am {m : Mly} {cl : List Int} {s k : Nat} (hs : s < m.nx.length) (hk : k < s) (h : m.sig cl s = m.sig cl k) : fnF m cl s k ((m.nextL cl).getD k 0) :=
  .inr ⟨((gg hs (by omega)).2 h).symm, k, Nat.le_refl _, hk, h⟩
theorem Bd {m : Mly} {cl : List Int} {s k : Nat} {fd : Int} (h : fnF m cl s (k + 1) fd) (h2 : ¬ m.sig cl s = m.sig cl k) : fnF m cl s k fd := by
  rcases h with ⟨h3, h4⟩ | ⟨h3, t, h4, h5, h6⟩
  · refine .inl ⟨h3, fun t ht1 ht2 => ?_⟩
    by_cases e : t = k
    · rw [e]; exact h2
    · exact h4 t (by omega) ht2
  · exact .inr ⟨h3, t, by omega, h5, h6⟩
theorem AP {m : Mly} {cl : List Int} {s : Nat} {fd : Int} (hs : s < m.nx.length) (h : fnF m cl s 0 fd) (h2 : fd < 0) : (m.nextL cl).getD s 0 = ((cY (m.sig cl) s).length : Int) ∧ (cY (m.sig cl) (s + 1)).length = (cY (m.sig cl) s).length + 1 := by
  rcases h with ⟨h3, h4⟩ | ⟨h3, _⟩
  · have hn : m.sig cl s ∉ cY (m.sig cl) s := fun hx => by
      obtain ⟨t, ht, e⟩ := fM.1 hx
      exact h4 t (Nat.zero_le _) ht e.symm
    refine ⟨by rw [iU hs, jX hs hn], by rw [dj, eZ hn, aq]; rfl⟩
  · have := (ji (m := m) (cl := cl) hs).1; omega
theorem AM {m : Mly} {cl : List Int} {s : Nat} {fd : Int} (h : fnF m cl s 0 fd) (h2 : ¬ fd < 0) : (m.nextL cl).getD s 0 = fd ∧ (cY (m.sig cl) (s + 1)).length = (cY (m.sig cl) s).length := by
  rcases h with ⟨h3, _⟩ | ⟨h3, t, _, h5, h6⟩
  · omega
  · refine ⟨h3.symm, by rw [dj, fW (fM.2 ⟨t, h5, h6.symm⟩)]⟩
theorem qt {l : List Int} {k j : Nat} (h : j < k) : (l.take k).getD j 0 = l.getD j 0 := by
  simp [List.getD, List.getElem?_take_of_lt h]
/-plain-/
abbrev BK := List (List Int)
theorem lx {l r : List Int} {i : Nat} (h : i < l.length) : (l ++ r).getD i 0 = l.getD i 0 := by simp [List.getD, List.getElem?_append_left h]
def cAt (m : Mly) (t : Int) : Int := (m.cls m.nx.length).getD t.toNat 0
def nmC (m : Mly) : Nat → List Int → Int → Int
  | _, [], _ => -1
  | i, o :: O, c => if cAt m o = c then (i : Int) else nmC m (i + 1) O c
def nmO (m : Mly) (O : List Int) (c : Int) : Int := nmC m 0 O c
def fU (m : Mly) (O : List Int) : List Int := (List.range m.nx.length).map fun (c : Nat) => nmO m O c
theorem mb {m : Mly} {c : Int} : ∀ (O : List Int) (i : Nat), (nmC m i O c = -1 ∧ ∀ o ∈ O, cAt m o ≠ c) ∨ ((i : Int) ≤ nmC m i O c ∧ nmC m i O c < i + O.length ∧ ∃ o ∈ O, cAt m o = c)
  | [], i => .inl ⟨rfl, fun o h => by cases h⟩
  | o :: O, i => by
    by_cases e : cAt m o = c
    · have : nmC m i (o :: O) c = i := if_pos e
      rw [this]
      exact .inr ⟨by omega, by simp only [aw]; omega, o, aS .., e⟩
    · have : nmC m i (o :: O) c = nmC m (i + 1) O c := if_neg e
      rw [this]
      rcases mb (c := c) O (i + 1) with ⟨h1, h2⟩ | ⟨h1, h2, o2, h3, h4⟩
      · exact .inl ⟨h1, fun o' ho => Or.elim (List.mem_cons.1 ho) (fun h9 => h9 ▸ e) (fun h9 => h2 o' h9)⟩
      · exact .inr ⟨by omega, by simp only [aw]; omega, o2, aL _ h3, h4⟩
theorem ui {m : Mly} {c t : Int} : ∀ (O : List Int) (i : Nat), nmC m i (O ++ [t]) c = if nmC m i O c = -1 then (if cAt m t = c then ((i + O.length : Nat) : Int) else -1) else nmC m i O c
  | [], i => by show (if _ then _ else _) = _; simp [nmC]
  | o :: O, i => by
    by_cases e : cAt m o = c
    · have h1 : nmC m i (o :: O) c = i := if_pos e
      have h2 : nmC m i (o :: O ++ [t]) c = i := if_pos e
      rw [h1, h2, if_neg (by omega)]
    · have h1 : nmC m i (o :: O) c = nmC m (i + 1) O c := if_neg e
      have h2 : nmC m i (o :: O ++ [t]) c = nmC m (i + 1) (O ++ [t]) c := if_neg e
      rw [h1, h2, ui O (i + 1), aw, show i + 1 + O.length = i + (O.length + 1) by omega]
theorem br (m : Mly) (O : List Int) : (fU m O).length = m.nx.length := by simp [fU]
theorem xk {m : Mly} {O : List Int} {c : Nat} (h : c < m.nx.length) : (fU m O).getD c 0 = nmO m O c := by unfold fU; simp [List.getD, h]
theorem rX {m : Mly} {O : List Int} {t : Int} {c : Nat} (h : c < m.nx.length) (hc : cAt m t = c) (hn : nmO m O c < 0) : (fU m O).set c (O.length : Int) = fU m (O ++ [t]) := by
  have hn1 : nmO m O c = -1 := by
    rcases mb (m := m) (c := (c : Int)) O 0 with ⟨h1, _⟩ | ⟨h1, _⟩
    · exact h1
    · unfold nmO at hn; omega
  apply List.ext_getElem
  · simp [fU]
  · intro i h1 h2
    have hi : i < m.nx.length := by simpa [fU] using h2
    rw [List.getElem_set]
    unfold fU nmO
    simp only [List.getElem_map, List.getElem_range, ui]
    by_cases e : c = i
    · subst e
      have hn2 : nmC m 0 O (c : Int) = -1 := hn1
      rw [if_pos rfl, if_pos hn2, if_pos hc]; simp
    · rw [if_neg e]
      by_cases e2 : nmC m 0 O (i : Int) = -1
      · rw [if_pos e2, if_neg (by rw [hc]; omega)]; exact e2
      · rw [if_neg e2]
theorem xC (m : Mly) : fU m [] = List.replicate m.nx.length (-1) := by
  unfold fU nmO nmC; simp [List.map_const']
def mmA (m : Mly) (O : List Int) (t : Int) : List Int := if nmO m O (cAt m t) < 0 then O ++ [t] else O
def qP (m : Mly) (x : Int) (p : List Int × List Int) (a : Nat) : List Int × List Int := (mmA m p.1 (m.nxt x a), p.2 ++ [nmO m (mmA m p.1 (m.nxt x a)) (cAt m (m.nxt x a))])
def cO (m : Mly) (x : Int) (O : List Int) (k : Nat) : List Int × List Int := (List.range k).foldl (qP m x) (O, [])
theorem fN {m : Mly} {x : Int} {O : List Int} {k : Nat} : cO m x O (k + 1) = qP m x (cO m x O k) k := by unfold cO; rw [List.range_succ, List.foldl_append]; rfl
def np (m : Mly) : Nat → Nat → List Int × List (List Int) → List Int × List (List Int)
  | 0, _, p => p
  | f + 1, i, p => if i < p.1.length then np m f (i + 1) ((cO m (p.1.getD i 0) p.1 m.inp.toNat).1, p.2 ++ [(cO m (p.1.getD i 0) p.1 m.inp.toNat).2]) else p
def mmF (m : Mly) : List Int × List (List Int) := np m (m.nx.length + 1) 0 ([m.st], [])
theorem pY {m : Mly} {f i : Nat} {p : List Int × List (List Int)} (h : i < p.1.length) : np m (f + 1) i p = np m f (i + 1) ((cO m (p.1.getD i 0) p.1 m.inp.toNat).1, p.2 ++ [(cO m (p.1.getD i 0) p.1 m.inp.toNat).2]) := if_pos h
theorem rH {m : Mly} {f i : Nat} {p : List Int × List (List Int)} (h : ¬ i < p.1.length) : np m f i p = p := by
  cases f with
  | zero => rfl
  | succ f => exact if_neg h
structure MO (m : Mly) (O : List Int) : Prop where
  rng : ∀ o ∈ O, 0 ≤ o ∧ o < m.nx.length
  cd : O.Pairwise fun x y => cAt m x ≠ cAt m y
theorem MO.nd {m : Mly} {O : List Int} (h : MO m O) : O.Nodup := h.cd.imp fun h e => h (by rw [e])
theorem MO.len {m : Mly} {O : List Int} (h : MO m O) : O.length ≤ m.nx.length := eR _ _ h.nd h.rng
theorem zW {m : Mly} {O : List Int} {t : Int} (h : MO m O) (ht : 0 ≤ t ∧ t < m.nx.length) : MO m (mmA m O t) := by
  unfold mmA
  split
  · rename_i hn
    refine ⟨fun o ho => ?_, ?_⟩
    · rcases List.mem_append.1 ho with h1 | h1
      · exact h.rng o h1
      · rw [List.mem_singleton] at h1; rw [h1]; exact ht
    · rw [List.pairwise_append]
      refine ⟨h.cd, List.pairwise_singleton _ _, fun x hx y hy => ?_⟩
      rw [List.mem_singleton] at hy; subst hy
      rcases mb (m := m) (c := cAt m y) O 0 with ⟨_, h2⟩ | ⟨h2, _⟩
      · exact h2 x hx
      · unfold nmO at hn; omega
  · exact h
theorem kD {m : Mly} (hm : MOK m) {x : Int} (hx : 0 ≤ x ∧ x < m.nx.length) {O : List Int} (h : MO m O) : ∀ k : Nat, (k : Int) ≤ m.inp → MO m (cO m x O k).1 ∧ (cO m x O k).2.length = k ∧ ∃ r, (cO m x O k).1 = O ++ r
  | 0, _ => ⟨h, rfl, [], (List.append_nil _).symm⟩
  | k + 1, hk => by
    obtain ⟨h1, h2, r, h3⟩ := kD hm hx h k (by omega)
    rw [fN]
    refine ⟨zW h1 (hm.nr x.toNat k (by omega) (by omega)), by show (_ ++ [_]).length = _; rw [aq, h2]; rfl, ?_⟩
    show ∃ r, mmA m (cO m x O k).1 _ = O ++ r
    unfold mmA
    split
    · exact ⟨r ++ [m.nxt x k], by rw [h3, List.append_assoc]⟩
    · exact ⟨r, h3⟩
theorem tQ {m : Mly} (hm : MOK m) {t : Int} (ht : 0 ≤ t ∧ t < m.nx.length) : 0 ≤ cAt m t ∧ cAt m t < m.nx.length := ph hm _ _ (by omega)
/-plain-/
def mmB (m : Mly) : Bool := decide (aT m = 0) && decide ((mmF m).2.length = m.nx.length)
def fB (m : Mly) : Int := if ¬ aT m = 0 then aT m else if mmB m = true then 0 else 1
/-plain-/
def cmL (x : aX) : Bool := !(decide (x.2.1 = -1) && !decide (x.1.length = 1))
def gO (T : List aX) : Bool := T.all cmL && decide (0 < T.length)
theorem Bf {T : List aX} {i : Nat} (h : i < T.length) (h2 : (T.getD i nd0).2.1 = -1 ∧ ¬ (T.getD i nd0).1.length = 1) : gO T = false := by
  have hm : T.getD i nd0 ∈ T := by simp [List.getD, h]
  have : T.all cmL = false := by
    rw [List.all_eq_false]
    exact ⟨_, hm, by unfold cmL; rw [decide_eq_true h2.1, decide_eq_false h2.2]; decide⟩
  unfold gO; rw [this]; rfl
theorem wO {T : List aX} (h : ∀ i, i < T.length → ¬ ((T.getD i nd0).2.1 = -1 ∧ ¬ (T.getD i nd0).1.length = 1)) : gO T = decide (0 < T.length) := by
  have : T.all cmL = true := by
    rw [List.all_eq_true]
    intro x hx
    obtain ⟨i, hi⟩ := List.getElem?_of_mem hx
    have hl := (List.getElem?_eq_some_iff.1 hi).1
    have e : T.getD i nd0 = x := by simp [List.getD, hi]
    have := h i hl
    rw [e] at this
    unfold cmL
    by_cases h1 : x.2.1 = -1
    · have h2 : x.1.length = 1 := by
        by_cases h2 : x.1.length = 1
        · exact h2
        · exact absurd ⟨h1, h2⟩ this
      rw [decide_eq_true h2]; simp
    · rw [decide_eq_false h1]; rfl
  unfold gO; rw [this]; rfl
def eh (m : Mly) (T : List aX) : Int := if ¬ dQ m = 0 then dQ m else if 4096 < T.length ∨ ¬ rtF m T (T.length + 1) 0 (rgI m.nx.length) (rgI m.nx.length) = some T.length then 1 else 0
def iz (m : Mly) (T : List aX) : Int := if ¬ fB m = 0 then fB m else if 4096 < T.length ∨ ¬ rtF m T (T.length + 1) 0 (rgI m.nx.length) (rgI m.nx.length) = some T.length then 1 else 0
theorem mc (m : Mly) : cJ m (rgI m.nx.length) := by
  intro s hs
  unfold rgI at hs
  obtain ⟨q, hq, rfl⟩ := List.mem_map.1 hs
  have := List.mem_range.1 hq
  omega
/-plain-/
theorem b6 (n : Nat) : (List.range n).map (fun (i : Nat) => (i : Int)) = rgI n := rfl
theorem vX {m : Mly} (h : dQ m = 0) : aT m = 0 := by
  unfold dQ at h
  by_cases hv : aT m = 0
  · exact hv
  · rw [if_pos hv] at h; exact absurd h hv
theorem AD {m : Mly} (h : fB m = 0) : aT m = 0 := by
  unfold fB at h
  by_cases hv : aT m = 0
  · exact hv
  · rw [if_pos hv] at h; exact absurd h hv
theorem Aw {m : Mly} {T : List aX} {f p : Nat} {ini cur : List Int} (h : (rtF m T f p ini cur).isSome = false ∨ ¬ rtP m T f p ini cur = (T.length : Int)) : ¬ rtF m T f p ini cur = some T.length := by
  intro e
  rcases h with h | h
  · rw [e] at h; cases h
  · exact h (da e)
theorem ym {m : Mly} {T : List aX} {f p : Nat} {ini cur : List Int} (h : (rtF m T f p ini cur).isSome = true ∧ rtP m T f p ini cur = (T.length : Int)) : rtF m T f p ini cur = some T.length := by
  obtain ⟨n, e⟩ := Option.isSome_iff_exists.1 h.1
  have h2 := h.2
  rw [da e] at h2
  rw [e]; congr 1; omega
theorem tl {o : Option Nat} {n : Nat} : rtI o = (n : Int) ↔ o = some n := by
  cases o with
  | none => exact ⟨fun h => by have h9 : (-1 : Int) = n := h; omega, fun h => by cases h⟩
  | some k => exact ⟨fun h => by have h9 : (k : Int) = n := h; congr 1; omega, fun h => by cases h; rfl⟩
/-plain-/
def prL (f : Nat → Int) (n s : Nat) (x : Int) : List Int := (List.range n).map fun q => if q < s then f q else if q = s then x else 0
theorem oT (f : Nat → Int) (n s : Nat) (x : Int) : (prL f n s x).length = n := by simp [prL]
theorem tB {f : Nat → Int} {n s : Nat} (h : s < n) (x y : Int) : (prL f n s x).set s y = prL f n s y := by
  refine List.ext_getElem (by simp [prL]) fun i h1 h2 => ?_
  simp only [prL, List.getElem_set, List.getElem_map, List.getElem_range]
  by_cases e : s = i
  · subst e; simp
  · rw [if_neg e, if_neg (Ne.symm e), if_neg (Ne.symm e)]
theorem rR (f : Nat → Int) (n s : Nat) : prL f n s (f s) = prL f n (s + 1) 0 := by
  unfold prL
  refine List.map_congr_left fun q _ => ?_
  by_cases e : q = s
  · subst e; simp
  · by_cases e2 : q < s
    · rw [if_pos e2, if_pos (by omega)]
    · rw [if_neg e2, if_neg e, if_neg (by omega)]; split <;> rfl
theorem yi (f : Nat → Int) (n : Nat) : prL f n 0 0 = List.replicate n 0 := by
  refine List.ext_getElem (by simp [prL]) fun i h1 h2 => ?_
  simp [prL]
theorem uM (f : Nat → Int) (n : Nat) (x : Int) : prL f n n x = (List.range n).map f := by
  unfold prL
  refine List.map_congr_left fun q hq => ?_
  rw [if_pos (List.mem_range.1 hq)]
def bI1 (b : Bool) : Int := if b = true then 1 else 0
def BA (d : Dfa) (s : Nat) : Int := bI1 (d.acc.getD s false)
/-plain-/
def gr (m : Mly) : Int := m.ot.flatten.foldl max 0
def IP (a b : Mly) (p : PP) : Prop := (0 ≤ p.1 ∧ p.1 < a.nx.length) ∧ 0 ≤ p.2 ∧ p.2 < b.nx.length
def IS (m : Mly) (p : PP) : Prop := (0 ≤ p.1 ∧ p.1 < m.nx.length) ∧ p.2 = 0
theorem IP.st {a b : Mly} (ha : MOK a) (hb : MOK b) : IP a b (a.st, b.st) := ⟨⟨ha.s1, ha.s2⟩, hb.s1, hb.s2⟩
theorem IS.st {m : Mly} (hm : MOK m) : IS m (m.st, 0) := ⟨⟨hm.s1, hm.s2⟩, rfl⟩
structure SNG (X : Mly) (F : SYS) : Prop where
  st : ∀ s x : Nat, s < X.nx.length → (x : Int) < X.inp → F ((s : Int), 0) x = ((X.nxt s x, 0), X.out s x)
theorem SNG.at_ {X : Mly} {F : SYS} (h : SNG X F) {q : PP} (hq : IS X q) {x : Nat} (hx : (x : Int) < X.inp) : F q x = ((X.nxt q.1 x, 0), X.out q.1 x) := by
  obtain ⟨q1, q2⟩ := q
  obtain ⟨h1, h2⟩ := hq
  simp only at h1 h2
  subst h2
  have := h.st q1.toNat x (by omega) hx
  rw [Int.toNat_of_nonneg h1.1] at this
  exact this
/-plain-/
abbrev Bs := List UInt8
def okI (c : Int) : Prop := (97 ≤ c ∧ c ≤ 122) ∨ (65 ≤ c ∧ c ≤ 90) ∨ (48 ≤ c ∧ c ≤ 57) ∨ c = 95 ∨ c = 45 ∨ c = 46
instance (c : Int) : Decidable (okI c) := by unfold okI; exact inferInstance
def Bp (s : Bs) : Bool := s.all (fun b => decide (okI (b.toNat : Int))) && decide (1 ≤ s.length) && decide (s.length ≤ 32)
structure AOK (xs : List Bs) : Prop where
  n0 : 1 ≤ xs.length
  n1 : xs.length ≤ 64
  nm : ∀ k, k < xs.length → Bp (xs.getD k []) = true
  nw : ∀ k, k < xs.length → xs.getD k [] ∉ xs.take k
theorem p9 {xs : List Bs} {k : Nat} (h : k < xs.length) : xs.getD k [] ∈ xs := by simp [List.getD, h]
theorem BE {xs : List Bs} {x : Bs} : x ∈ xs ↔ ∃ j, j < xs.length ∧ xs.getD j [] = x := by
  constructor
  · intro h
    obtain ⟨j, hj⟩ := List.getElem?_of_mem h
    exact ⟨j, (List.getElem?_eq_some_iff.1 hj).1, by simp [List.getD, hj]⟩
  · rintro ⟨j, hj, e⟩; rw [← e]; exact p9 hj
theorem vv {xs : List Bs} {i k : Nat} (hi : i < k) : (xs.take k).getD i [] = xs.getD i [] := by simp [List.getD, List.getElem?_take, hi]
theorem uk {q : Bs} : ∀ {l : List Bs} {k : Nat}, k < pos l q → l.getD k [] ≠ q
  | [], k, h => by simp [pos] at h
  | y :: l, k, h => by
    simp only [pos] at h
    split at h
    · omega
    · rename_i e
      cases k with
      | zero => simpa [List.getD] using e
      | succ k =>
        have := uk (q := q) (l := l) (k := k) (by omega)
        simpa [List.getD] using this
theorem yW {l : List Bs} {q : Bs} (h : q ∈ l) : l.getD (pos l q) [] = q := by rw [List.getD, iI h]; rfl
theorem BB {l : List Bs} {q : Bs} {k : Nat} (hq : ∀ j, j < k → l.getD j [] ≠ q) (hk : k < l.length) (h : l.getD k [] = q) : pos l q = k ∧ q ∈ l := by
  have hm : q ∈ l := by rw [← h]; exact p9 hk
  refine ⟨?_, hm⟩
  rcases Nat.lt_trichotomy k (pos l q) with h2 | h2 | h2
  · exact absurd h (uk h2)
  · exact h2.symm
  · exact absurd (yW hm) (hq _ h2)
theorem AOK.pos {xs : List Bs} (h : AOK xs) {k : Nat} (hk : k < xs.length) : pos xs (xs.getD k []) = k :=
  (BB (fun j hj e => h.nw k hk (by rw [BE]; exact ⟨j, by rw [List.length_take]; omega, by rw [vv hj, e]⟩)) hk rfl).1
/-plain-/
theorem gK (m : Mly) (cur : List Int) (a o : Int) : cr m (bV m cur cur a cur.length o) a = bB m cur a cur.length o := rfl
theorem iy (m : Mly) (ini cur : List Int) (a o : Int) : pkL ini (ptL m cur a o cur.length) = bV m ini cur a cur.length o := rfl
theorem A7 {m : Mly} {cur : List Int} {a o : Int} (h : cJ m cur) : cJ m (pkL cur (ptL m cur a o cur.length)) := by
  intro s hs
  unfold pkL at hs
  obtain ⟨x, hx, rfl⟩ := List.mem_map.1 hs
  obtain ⟨q, hq, _, rfl⟩ := jH.1 hx
  rw [ah]
  exact h _ (bn hq)
theorem uA {m : Mly} {cur : List Int} {a o : Int} {n : Nat} (hn : n = cur.length) : ∀ x ∈ ptL m cur a o cur.length, 0 ≤ x ∧ x < n := by
  intro x hx
  obtain ⟨q, hq, _, rfl⟩ := jH.1 hx
  omega
/-plain-/
structure MIN12 (m : Mly) : Prop where
  rc : ∀ s : Int, 0 ≤ s → s < m.nx.length → s ∈ m.reach
  ds : ∀ s t : Int, 0 ≤ s → s < m.nx.length → 0 ≤ t → t < m.nx.length → EQV m s t → s = t
theorem ow (n : Nat) : (rgI n).Nodup := List.pairwise_map.2 (List.nodup_range.imp fun {a b} h e => h (by omega))
theorem ub {n : Nat} {l : List Int} (hn : l.Nodup) (hr : ∀ x, x ∈ l → 0 ≤ x ∧ x < n) (hl : l.length = n) {s : Int} (h0 : 0 ≤ s) (h1 : s < n) : s ∈ l := by
  by_cases e : s ∈ l
  · exact e
  · exfalso
    have := eR n (s :: l) (List.nodup_cons.2 ⟨e, hn⟩) (fun x hx => by
      rcases List.mem_cons.1 hx with h | h
      · rw [h]; exact ⟨h0, h1⟩
      · exact hr x h)
    simp only [aw] at this
    omega
theorem qC {n : Nat} {l : List Int} (h : ∀ s : Int, 0 ≤ s → s < n → s ∈ l) : n ≤ l.length := by
  have h1 := ow n
  have h2 := dY (rgI n) l h1 fun x hx => by
    unfold rgI at hx
    obtain ⟨q, hq, rfl⟩ := List.mem_map.1 hx
    have := List.mem_range.1 hq
    exact h _ (by omega) (by omega)
  rw [db] at h2; exact h2
theorem zu (t : Mly) : t.reps.length ≤ t.nx.length := by
  unfold Mly.reps dF
  exact Nat.le_trans (List.length_filter_le _ _) (by simp)
theorem AX {t : Mly} (ht : MOK t) (h : t.reps.length = t.nx.length) {s : Int} (h0 : 0 ≤ s) (h1 : s < t.nx.length) : t.f s = s := by
  have e : t.reps = List.range t.nx.length := by
    unfold Mly.reps dF at h ⊢
    refine List.filter_eq_self.2 ?_
    refine List.length_filter_eq_length_iff.1 ?_
    rw [h]; simp
  have h2 := ((gE ht).at_ s.toNat (by
    have : (dF t.eqc t.nx.length).length = t.nx.length := h
    omega)).2
  have h3 : (dF t.eqc t.nx.length).getD s.toNat 0 = s.toNat := by
    have : dF t.eqc t.nx.length = List.range t.nx.length := e
    rw [this]
    simp [List.getD, show s.toNat < t.nx.length by omega]
  rw [h3] at h2
  show t.eqc.getD s.toNat 0 = s
  rw [h2]; omega
theorem zx {m : Mly} (hv : aT m = 0) : mnB m = true ↔ MIN12 m := by
  have hm := fc hv
  have ht := rn hm
  have hT : m.T.nx.length = m.reach.length := sN m
  have hR := fI hm
  have hmr : m.mres.nx.length = m.T.reps.length := by unfold Mly.mres; rw [if_pos hv]; exact qd m.T
  unfold mnB
  rw [decide_eq_true hv, Bool.true_and, Bool.and_eq_true, decide_eq_true_eq, decide_eq_true_eq, hmr]
  constructor
  · rintro ⟨h1, h2⟩
    have hrc : ∀ s : Int, 0 ≤ s → s < m.nx.length → s ∈ m.reach := fun s h0 h3 => ub hR.nd hR.rng h1 h0 h3
    refine ⟨hrc, fun s t s0 s1 t0 t1 he => ?_⟩
    have hs := hrc s s0 s1
    have htt := hrc t t0 t1
    have x1 := lH hm hs
    have x2 := lH hm htt
    have he2 : EQV m.T (m.ix s) (m.ix t) := fun w hw => by
      rw [(ut hm hs w hw).2.2, (ut hm htt w hw).2.2]; exact he w hw
    have h3 := (m7 ht (by omega) (by omega) (by omega) (by omega)).2 he2
    have f1 := AX ht (by omega) (s := m.ix s) (by omega) (by omega)
    have f2 := AX ht (by omega) (s := m.ix t) (by omega) (by omega)
    exact wH hm hs htt (by
      rw [← f1, ← f2]; exact h3)
  · intro h
    have h1 : m.reach.length = m.nx.length := Nat.le_antisymm hR.len (qC h.rc)
    refine ⟨h1, ?_⟩
    have hle := zu m.T
    refine Nat.le_antisymm (by omega) ?_
    have hnd : ((rgI m.nx.length).map m.T.f).Nodup := by
      have h0 := ow m.nx.length
      refine List.pairwise_map.2 (List.Pairwise.imp_of_mem (fun {a b} ha hb hne e => hne ?_) h0)
      have ra := gZ.1 ha
      have rb := gZ.1 hb
      have he := (m7 ht (s := a) (t := b) (by omega) (by omega) (by omega) (by omega)).1 e
      have ga : m.reach.getD a.toNat 0 ∈ m.reach := bn (by omega)
      have gb : m.reach.getD b.toNat 0 ∈ m.reach := bn (by omega)
      have ia := mz hm (i := a.toNat) (by omega)
      have ib := mz hm (i := b.toNat) (by omega)
      have he2 : EQV m (m.reach.getD a.toNat 0) (m.reach.getD b.toNat 0) := fun w hw => by
        rw [← (ut hm ga w hw).2.2, ← (ut hm gb w hw).2.2, ia, ib]
        rw [show ((a.toNat : Nat) : Int) = a by omega, show ((b.toNat : Nat) : Int) = b by omega]
        exact he w hw
      have r1 := hR.rng _ ga
      have r2 := hR.rng _ gb
      have := h.ds _ _ r1.1 r1.2 r2.1 r2.2 he2
      have := ik hR.nd (by omega) (by omega) this
      omega
    have := eR m.T.reps.length _ hnd (fun x hx => by
      obtain ⟨y, hy, rfl⟩ := List.mem_map.1 hx
      have ry := gZ.1 hy
      exact mu ht (by omega) (by omega))
    rw [aF, db] at this
    exact this
theorem wq {m : Mly} {P : Int → Prop} (hc : ∀ x, P x → ∀ y, y ∈ m.row x → P y) : ∀ (f i : Nat) (l : List Int), (∀ x, x ∈ l → P x) → ∀ x, x ∈ m.rf f i l → P x
  | 0, _, _, h => h
  | f + 1, i, l, h => by
    intro x hx
    rw [Mly.rf] at hx
    split at hx
    · rename_i hi
      refine wq hc f (i + 1) _ (fun y hy => ?_) x hx
      rcases gl.1 hy with h1 | h1
      · exact h y h1
      · exact hc _ (h _ (bn hi)) y h1
    · exact h x hx
theorem r8 {m : Mly} (hm : MOK m) {s t : Nat} (hs : s < m.nx.length) (ht : t < m.nx.length) : ∀ (d j : Nat), (m.cls (j + d)).getD s 0 = (m.cls (j + d)).getD t 0 → (m.cls j).getD s 0 = (m.cls j).getD t 0
  | 0, _, h => h
  | d + 1, j, h => r8 hm hs ht d j (iQ hm (j + d) s t hs ht h)
theorem tW {m : Mly} (hm : MOK m) {s t : Int} (s0 : 0 ≤ s) (s1 : s < m.nx.length) (t0 : 0 ≤ t) (t1 : t < m.nx.length) : cAt m s = cAt m t ↔ EQV m s t := by
  constructor
  · intro h
    refine (m7 hm s0 s1 t0 t1).1 ?_
    obtain ⟨j, h1, h2, _⟩ := kg hm
    rw [h1]
    refine r8 hm (by omega) (by omega) (m.nx.length - j) j ?_
    rw [show j + (m.nx.length - j) = m.nx.length by omega]
    exact h
  · intro h
    exact pB hm m.nx.length s.toNat t.toNat (by omega) (by omega) (by rw [Int.toNat_of_nonneg s0, Int.toNat_of_nonneg t0]; exact h)
theorem yz {m : Mly} (O : List Int) (t : Int) : ∃ o, o ∈ mmA m O t ∧ cAt m o = cAt m t := by
  unfold mmA
  split
  · exact ⟨t, by simp, rfl⟩
  · rename_i hn
    rcases mb (m := m) (c := cAt m t) O 0 with ⟨h1, _⟩ | ⟨_, _, o, h2, h3⟩
    · unfold nmO at hn; omega
    · exact ⟨o, h2, h3⟩
theorem za {m : Mly} {O : List Int} {t x : Int} (h : x ∈ mmA m O t) : x ∈ O ∨ x = t := by
  unfold mmA at h
  split at h
  · rcases List.mem_append.1 h with h | h
    · exact .inl h
    · exact .inr (List.mem_singleton.1 h)
  · exact .inl h
theorem tw {m : Mly} {O : List Int} {t x : Int} (h : x ∈ O) : x ∈ mmA m O t := by
  unfold mmA; split
  · exact List.mem_append_left _ h
  · exact h
theorem zK {m : Mly} (hm : MOK m) {x : Int} (hx : 0 ≤ x ∧ x < m.nx.length) {a : Nat} (ha : (a : Int) < m.inp) : m.nxt x a ∈ m.row x := by
  have := hm.rl x.toNat (by omega)
  exact bn (by unfold Mly.row; omega)
theorem qy {m : Mly} (hm : MOK m) {x : Int} (hx : 0 ≤ x ∧ x < m.nx.length) (hr : x ∈ m.reach) {O : List Int} (hO : ∀ o ∈ O, o ∈ m.reach) : ∀ k : Nat, (k : Int) ≤ m.inp →
    (∀ o ∈ (cO m x O k).1, o ∈ m.reach) ∧ (∀ o ∈ O, o ∈ (cO m x O k).1) ∧ ∀ a : Nat, a < k → ∃ o, o ∈ (cO m x O k).1 ∧ cAt m o = cAt m (m.nxt x a)
  | 0, _ => ⟨hO, fun o h => h, fun a h => by omega⟩
  | k + 1, hk => by
    obtain ⟨h1, h2, h3⟩ := qy hm hx hr hO k (by omega)
    rw [fN]
    refine ⟨fun o ho => ?_, fun o ho => tw (h2 o ho), fun a ha => ?_⟩
    · rcases za ho with h | h
      · exact h1 o h
      · rw [h]; exact fv hm hr (zK hm hx (by omega))
    · by_cases e : a = k
      · rw [e]; exact yz _ _
      · obtain ⟨o, h4, h5⟩ := h3 a (by omega)
        exact ⟨o, tw h4, h5⟩
structure MMI (m : Mly) (i : Nat) (p : List Int × List (List Int)) : Prop where
  mo : MO m p.1
  rc : ∀ o ∈ p.1, o ∈ m.reach
  st : m.st ∈ p.1
  ln : p.2.length = i
  le : i ≤ p.1.length
  cl : ∀ j, j < i → ∀ a : Nat, (a : Int) < m.inp → ∃ o, o ∈ p.1 ∧ cAt m o = cAt m (m.nxt (p.1.getD j 0) a)
theorem rW {m : Mly} (hm : MOK m) : ∀ (f i : Nat) (p : List Int × List (List Int)), m.nx.length < f + i → MMI m i p → MMI m (np m f i p).1.length (np m f i p)
  | 0, i, p, h, hI => by
    have := hI.mo.len; have := hI.le; omega
  | f + 1, i, p, h, hI => by
    by_cases e : i < p.1.length
    · rw [pY e]
      have hx := hI.mo.rng _ (bn e)
      have hi := hm.i1
      obtain ⟨r1, r2, r, r3⟩ := kD hm hx hI.mo m.inp.toNat (by omega)
      obtain ⟨s1, s2, s3⟩ := qy hm hx (hI.rc _ (bn e)) hI.rc m.inp.toNat (by omega)
      refine rW hm f (i + 1) _ (by omega) ⟨r1, s1, s2 _ hI.st, by simp [hI.ln], ?_, fun j hj a ha => ?_⟩
      · show i + 1 ≤ (cO m (p.1.getD i 0) p.1 m.inp.toNat).1.length
        rw [r3, aq]; omega
      · have hg : (cO m (p.1.getD i 0) p.1 m.inp.toNat).1.getD j 0 = p.1.getD j 0 := by rw [r3, lx (by omega)]
        show ∃ o, o ∈ (cO m (p.1.getD i 0) p.1 m.inp.toNat).1 ∧ cAt m o = cAt m (m.nxt ((cO m (p.1.getD i 0) p.1 m.inp.toNat).1.getD j 0) a)
        rw [hg]
        by_cases e2 : j = i
        · rw [e2]; exact s3 a (by omega)
        · obtain ⟨o, h1, h2⟩ := hI.cl j (by omega) a ha
          exact ⟨o, s2 o h1, h2⟩
    · rw [rH e]
      have : i = p.1.length := by have := hI.le; omega
      rw [← this]; exact hI
theorem yy {m : Mly} (hm : MOK m) : MMI m (mmF m).1.length (mmF m) := by
  have hs1 := hm.s1; have hs2 := hm.s2
  refine rW hm _ _ _ (by omega) ⟨⟨fun o ho => ?_, List.pairwise_singleton _ _⟩, fun o ho => ?_, by simp, rfl, Nat.zero_le _, fun j hj => by omega⟩
  · rw [List.mem_singleton] at ho; rw [ho]; exact ⟨hs1, hs2⟩
  · rw [List.mem_singleton] at ho; rw [ho]
    obtain ⟨k, hk⟩ := iN hm
    rw [hk]; exact aS ..
theorem yX {m : Mly} (hv : aT m = 0) : mmB m = true ↔ MIN12 m := by
  have hm := fc hv
  have hI := yy hm
  unfold mmB
  rw [decide_eq_true hv, Bool.true_and, decide_eq_true_eq, hI.ln]
  constructor
  · intro h1
    have hall : ∀ s : Int, 0 ≤ s → s < m.nx.length → s ∈ (mmF m).1 := fun s h0 h2 => ub hI.mo.nd hI.mo.rng h1 h0 h2
    refine ⟨fun s h0 h2 => hI.rc s (hall s h0 h2), fun s t s0 s1 t0 t1 he => ?_⟩
    have hc := (tW hm s0 s1 t0 t1).2 he
    obtain ⟨i, hi, ei⟩ := fR (hall s s0 s1)
    obtain ⟨j, hj, ej⟩ := fR (hall t t0 t1)
    have gi : (mmF m).1.getD i 0 = (mmF m).1[i] := by simp [List.getD, hi]
    have gj : (mmF m).1.getD j 0 = (mmF m).1[j] := by simp [List.getD, hj]
    rcases Nat.lt_trichotomy i j with h | h | h
    · exact absurd (by rw [← gi, ← gj, ei, ej]; exact hc) (List.pairwise_iff_getElem.1 hI.mo.cd i j hi hj h)
    · subst h; rw [← ei, ← ej]
    · exact absurd (by rw [← gi, ← gj, ei, ej]; exact hc.symm) (List.pairwise_iff_getElem.1 hI.mo.cd j i hj hi h)
  · intro h
    refine Nat.le_antisymm hI.mo.len (qC fun s h0 h1 => ?_)
    have hs := h.rc s h0 h1
    rw [dG hv] at hs
    refine wq (P := fun x => x ∈ (mmF m).1) (fun x hx y hy => ?_) _ _ _ (fun x hx => ?_) s hs
    · obtain ⟨j, hj, ej⟩ := fR hx
      have rx := hI.mo.rng x hx
      obtain ⟨a, ha, ea⟩ := fR hy
      have hrl := hm.rl x.toNat (by omega)
      obtain ⟨o, o1, o2⟩ := hI.cl j hj a (by unfold Mly.row at ha; omega)
      rw [ej] at o2
      have ro := hI.mo.rng o o1
      have e2 : m.nxt x a = y := by rw [← ea]; rfl
      rw [e2] at o2
      have ry := gH hm (s := x) (by omega) (by omega) y hy
      have := h.ds _ _ ro.1 ro.2 ry.1 ry.2 ((tW hm ro.1 ro.2 ry.1 ry.2).1 o2)
      rw [← this]; exact o1
    · rw [List.mem_singleton] at hx; rw [hx]; exact hI.st
theorem zL {m : Mly} : mnB m = mmB m := by
  by_cases hv : aT m = 0
  · rw [Bool.eq_iff_iff, zx hv, yX hv]
  · unfold mnB mmB; rw [decide_eq_false hv]; rfl
theorem tR (m : Mly) : dQ m = fB m := by unfold dQ fB; rw [zL]
/-plain-/
theorem sH {xs : List Int} {j : Nat} (h : j < xs.length) : xs.getD j 0 = xs[j] := by simp [List.getD, h]
def kTo (K : List dx) (o : Int) : Int := match K.find? (fun k => decide (k.1 = o)) with | some k => k.2.1 | none => 0
def wdG (m : Mly) (T : List aX) : Nat → Nat → Int → List Int × Nat
  | 0, p, _ => ([], p)
  | f + 1, p, s => if (T.getD p nd0).2.1 < 0 then ([], p) else
    ((T.getD p nd0).2.1 :: (wdG m T f (kTo (T.getD p nd0).2.2.1 (m.out s (T.getD p nd0).2.1)).toNat (m.nxt s (T.getD p nd0).2.1)).1, (wdG m T f (kTo (T.getD p nd0).2.2.1 (m.out s (T.getD p nd0).2.1)).toNat (m.nxt s (T.getD p nd0).2.1)).2)
theorem tN {m : Mly} {T : List aX} {f p : Nat} {s : Int} (h : (T.getD p nd0).2.1 < 0) : wdG m T f p s = ([], p) := by
  cases f with
  | zero => rfl
  | succ f => exact if_pos h
theorem wC {m : Mly} {T : List aX} {f p : Nat} {s : Int} (h : ¬ (T.getD p nd0).2.1 < 0) : wdG m T (f + 1) p s =
    ((T.getD p nd0).2.1 :: (wdG m T f (kTo (T.getD p nd0).2.2.1 (m.out s (T.getD p nd0).2.1)).toNat (m.nxt s (T.getD p nd0).2.1)).1, (wdG m T f (kTo (T.getD p nd0).2.2.1 (m.out s (T.getD p nd0).2.1)).toNat (m.nxt s (T.getD p nd0).2.1)).2) := if_neg h
theorem sr : ∀ {K : List dx} {i : Nat} {o : Int}, i < K.length → (K.getD i kd0).1 = o → (∀ j, j < i → (K.getD j kd0).1 ≠ o) → kTo K o = (K.getD i kd0).2.1
  | k :: K, 0, o, _, h, _ => by
    have h' : k.1 = o := h
    unfold kTo; rw [List.find?_cons, decide_eq_true h']; rfl
  | k :: K, i + 1, o, hi, h, hn => by
    have h0 : ¬ k.1 = o := hn 0 (by omega)
    have ih := sr (K := K) (i := i) (o := o) (by simpa using hi) (by simpa [List.getD] using h) (fun j hj => by have := hn (j + 1) (by omega); simpa [List.getD] using this)
    unfold kTo at ih ⊢
    rw [List.find?_cons, decide_eq_false h0]
    simpa [List.getD] using ih
  | [], _, _, h, _, _ => by simp at h
structure RTI (m : Mly) (T : List aX) (p : Nat) (s : Int) : Prop where
  ex : ∃ f ini cur n, rtF m T f p ini cur = some n ∧ s ∈ cur ∧ cJ m cur
theorem rV {m : Mly} {T : List aX} {rec : Nat → List Int → List Int → Option Nat} (hr : ∀ e i c n, rec e i c = some n → e < n ∧ n ≤ T.length) {ini cur : List Int} {x : aX} {p : Nat} : ∀ (k n : Nat), (List.range k).foldl (ff m rec ini cur x) (some (p + 1)) = some n →
    (p + 1 ≤ n) ∧ ∀ i, i < k → ∃ e n2, p + 1 ≤ e ∧ (x.2.2.1.getD i kd0).1 = (aE (ouL m cur x.2.1)).getD i 0 ∧ (x.2.2.1.getD i kd0).2.1 = (e : Int) ∧ rec e (bV m ini cur x.2.1 cur.length ((aE (ouL m cur x.2.1)).getD i 0)) (bB m cur x.2.1 cur.length ((aE (ouL m cur x.2.1)).getD i 0)) = some n2
  | 0, n, h => by
    simp only [List.range_zero, List.foldl_nil, Option.some.injEq] at h
    exact ⟨by omega, fun i hi => by omega⟩
  | k + 1, n, h => by
    rw [List.range_succ, List.foldl_append, List.foldl_cons, List.foldl_nil] at h
    cases h1 : (List.range k).foldl (ff m rec ini cur x) (some (p + 1)) with
    | none => rw [h1] at h; cases h
    | some e =>
      rw [h1] at h
      obtain ⟨h2, h3⟩ := rV hr k e h1
      by_cases hk : (x.2.2.1.getD k kd0).1 = (aE (ouL m cur x.2.1)).getD k 0 ∧ (x.2.2.1.getD k kd0).2.1 = (e : Int)
      · rw [kE hk] at h
        have h4 := hr _ _ _ _ h
        refine ⟨by omega, fun i hi => ?_⟩
        by_cases e9 : i = k
        · subst e9; exact ⟨e, n, h2, hk.1, hk.2, h⟩
        · exact h3 i (by omega)
      · rw [pr hk] at h; cases h
theorem zv {m : Mly} {T : List aX} {f p n : Nat} {ini cur : List Int} (h : rtF m T (f + 1) p ini cur = some n) : (p < T.length ∧ (T.getD p nd0).1 = ini ∧ cur.Nodup) ∧
    (((T.getD p nd0).2.1 = -1 ∧ (T.getD p nd0).2.2.1.length = 0 ∧ n = p + 1) ∨
     (0 ≤ (T.getD p nd0).2.1 ∧ (T.getD p nd0).2.1 < m.inp ∧ (aE (ouL m cur (T.getD p nd0).2.1)).length = (T.getD p nd0).2.2.1.length ∧ (List.range (T.getD p nd0).2.2.1.length).foldl (ff m (rtF m T f) ini cur (T.getD p nd0)) (some (p + 1)) = some n)) := by
  by_cases h1 : p < T.length ∧ (T.getD p nd0).1 = ini ∧ cur.Nodup
  · refine ⟨h1, ?_⟩
    by_cases h2 : (T.getD p nd0).2.1 = -1
    · rw [d7 h1 h2] at h
      by_cases h3 : (T.getD p nd0).2.2.1.length = 0
      · rw [if_pos h3] at h; cases h; exact .inl ⟨h2, h3, rfl⟩
      · rw [if_neg h3] at h; cases h
    · by_cases h3 : 0 ≤ (T.getD p nd0).2.1 ∧ (T.getD p nd0).2.1 < m.inp ∧ (aE (ouL m cur (T.getD p nd0).2.1)).length = (T.getD p nd0).2.2.1.length
      · rw [kf h1 h2 h3] at h
        exact .inr ⟨h3.1, h3.2.1, h3.2.2, h⟩
      · rw [jP h2 h3] at h; cases h
  · rw [kt h1] at h; cases h
theorem zt {m : Mly} {cur : List Int} {a s : Int} (h : s ∈ cur) : m.nxt s a ∈ bB m cur a cur.length (m.out s a) := by
  obtain ⟨q, hq, rfl⟩ := mZ.1 h
  unfold bB cr pkL
  rw [List.map_map]
  exact List.mem_map.2 ⟨(q : Int), jH.2 ⟨q, hq, rfl, rfl⟩, by simp⟩
theorem yf {m : Mly} (hm : MOK m) {T : List aX} {p : Nat} {s : Int} (h : RTI m T p s) (h0 : ¬ (T.getD p nd0).2.1 < 0) : p < T.length ∧ (0 ≤ s ∧ s < m.nx.length) ∧ (0 ≤ (T.getD p nd0).2.1 ∧ (T.getD p nd0).2.1 < m.inp) ∧
    ∃ i, i < (T.getD p nd0).2.2.1.length ∧ ((T.getD p nd0).2.2.1.getD i kd0).1 = m.out s (T.getD p nd0).2.1 ∧ (∀ j, j < (T.getD p nd0).2.2.1.length → ((T.getD p nd0).2.2.1.getD j kd0).1 = m.out s (T.getD p nd0).2.1 → j = i) ∧
      (p : Int) < ((T.getD p nd0).2.2.1.getD i kd0).2.1 ∧ ((T.getD p nd0).2.2.1.getD i kd0).2.1 < T.length ∧ RTI m T ((T.getD p nd0).2.2.1.getD i kd0).2.1.toNat (m.nxt s (T.getD p nd0).2.1) := by
  obtain ⟨f, ini, cur, n, hr, hs, hst⟩ := h.ex
  cases f with
  | zero => cases hr
  | succ f =>
    obtain ⟨hn, hk⟩ := zv hr
    refine ⟨hn.1, hst s hs, ?_⟩
    rcases hk with ⟨h1, _⟩ | ⟨h1, h2, h3, h4⟩
    · omega
    · refine ⟨⟨h1, h2⟩, ?_⟩
      obtain ⟨_, hall⟩ := rV (fun e i c n h => iV h) _ _ h4
      have hin : m.out s (T.getD p nd0).2.1 ∈ aE (ouL m cur (T.getD p nd0).2.1) := ((dp _).2 _).2 (List.mem_map.2 ⟨s, hs, rfl⟩)
      have hpl := gR hin
      have hgp := kZ hin
      refine ⟨pos (aE (ouL m cur (T.getD p nd0).2.1)) (m.out s (T.getD p nd0).2.1), by omega, ?_, ?_, ?_⟩
      · obtain ⟨e, n2, _, h5, _⟩ := hall _ (by omega : pos (aE (ouL m cur (T.getD p nd0).2.1)) (m.out s (T.getD p nd0).2.1) < (T.getD p nd0).2.2.1.length)
        rw [h5]; exact hgp
      · intro j hj he
        obtain ⟨e, n2, _, h5, _⟩ := hall j hj
        rw [h5] at he
        have hso := (dp (ouL m cur (T.getD p nd0).2.1)).1
        have e1 : (aE (ouL m cur (T.getD p nd0).2.1)).getD j 0 = (aE (ouL m cur (T.getD p nd0).2.1))[j]'(by omega) := sH (by omega)
        have e2 : (aE (ouL m cur (T.getD p nd0).2.1)).getD (pos (aE (ouL m cur (T.getD p nd0).2.1)) (m.out s (T.getD p nd0).2.1)) 0 = (aE (ouL m cur (T.getD p nd0).2.1))[pos (aE (ouL m cur (T.getD p nd0).2.1)) (m.out s (T.getD p nd0).2.1)]'hpl := sH hpl
        rcases Nat.lt_trichotomy j (pos (aE (ouL m cur (T.getD p nd0).2.1)) (m.out s (T.getD p nd0).2.1)) with h6 | h6 | h6
        · have := List.pairwise_iff_getElem.1 hso _ _ (by omega) hpl h6
          omega
        · exact h6
        · have := List.pairwise_iff_getElem.1 hso _ _ hpl (by omega) h6
          omega
      · obtain ⟨e, n2, h6, h5, h7, h8⟩ := hall _ (by omega : pos (aE (ouL m cur (T.getD p nd0).2.1)) (m.out s (T.getD p nd0).2.1) < (T.getD p nd0).2.2.1.length)
        have h9 := iV h8
        refine ⟨by omega, by omega, ?_⟩
        rw [h7, ah]
        rw [hgp] at h8
        exact ⟨f, _, _, n2, h8, zt hs, mA hm ⟨h1, h2⟩ hst⟩
def jl (m : Mly) (T : List aX) (s : Int) : List Int × Nat := wdG m T T.length 0 s
def i8 (m : Mly) (T : List aX) (s : Int) : Int := if ¬ eh m T = 0 then eh m T else if s < 0 ∨ (m.nx.length : Int) ≤ s then 2 else 0
theorem A6 {m : Mly} {T : List aX} (h : eh m T = 0) : aT m = 0 ∧ T.length ≤ 4096 ∧ rtF m T (T.length + 1) 0 (rgI m.nx.length) (rgI m.nx.length) = some T.length := by
  unfold eh at h
  by_cases h1 : dQ m = 0
  · rw [if_neg (fun h => h h1)] at h
    by_cases h2 : 4096 < T.length ∨ ¬ rtF m T (T.length + 1) 0 (rgI m.nx.length) (rgI m.nx.length) = some T.length
    · rw [if_pos h2] at h; cases h
    · refine ⟨vX h1, by omega, ?_⟩
      exact Classical.byContradiction fun h3 => h2 (.inr h3)
  · rw [if_pos h1] at h; exact absurd h h1
theorem xE {m : Mly} {T : List aX} {s : Int} (h : rtF m T (T.length + 1) 0 (rgI m.nx.length) (rgI m.nx.length) = some T.length) (hs : 0 ≤ s ∧ s < m.nx.length) : RTI m T 0 s :=
  ⟨_, _, _, _, h, List.mem_map.2 ⟨s.toNat, List.mem_range.2 (by omega), by omega⟩, mc m⟩
theorem Aq {m : Mly} {T : List aX} {p : Nat} {s : Int} (h : RTI m T p s) : p < T.length := by
  obtain ⟨f, ini, cur, n, hr, _⟩ := h.ex
  have := iV hr; omega
theorem yA {m : Mly} {T : List aX} {f p : Nat} {s t : Int} {W : List Int} {i : Nat} (h0 : ¬ (T.getD p nd0).2.1 < 0) (hi : i < (T.getD p nd0).2.2.1.length) (h1 : ((T.getD p nd0).2.2.1.getD i kd0).1 = m.out s (T.getD p nd0).2.1) (h2 : ∀ j, j < (T.getD p nd0).2.2.1.length → ((T.getD p nd0).2.2.1.getD j kd0).1 = m.out s (T.getD p nd0).2.1 → j = i)
    (h : (W ++ (wdG m T (f + 1) p s).1, (wdG m T (f + 1) p s).2) = jl m T t) : ((W ++ [(T.getD p nd0).2.1]) ++ (wdG m T f ((T.getD p nd0).2.2.1.getD i kd0).2.1.toNat (m.nxt s (T.getD p nd0).2.1)).1, (wdG m T f ((T.getD p nd0).2.2.1.getD i kd0).2.1.toNat (m.nxt s (T.getD p nd0).2.1)).2) = jl m T t := by
  rw [← h, wC h0, sr hi h1 (fun j hj e => by have := h2 j (by omega) e; omega)]
  simp
end Go.AV
