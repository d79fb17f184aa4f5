/- Contracts of functions of this seat, each out of a walk through its code, and plain facts on what they compute. Conditions: those that each theorem names. -/
import Derived.Test.YtceafldjjedhcaaDoorW02
set_option linter.unusedSimpArgs false
set_option linter.unusedVariables false
namespace Go.AV
open Nat renaming reduceEqDiff → J, reduceAdd → E, reduceLeDiff → U, reduceLT → Z, reduceMul → V, reduceSub → Y
open List renaming set_cons_zero → aw, set_cons_succ → au
/-plain-/
/-! Mappers. On dfaTh. -/
structure Mpr where
  inp : Int
  ab : Int
  st : Int
  nx : List (List Int)
  sy : List (List Int)
def Mpr.av (p : Mpr) : AV := .agg [.int .i64 p.inp, .int .i64 p.ab, .int .i64 p.st, .list (.list (.int .i64)) p.nx, .list (.list (.int .i64)) p.sy]
def m5 : Mpr := ⟨0, 0, 0, [], []⟩
def Mpr.bad (p : Mpr) (s c : Nat) : Prop := (p.nx.getD s []).getD c 0 < 0 ∨ (p.nx.length : Int) ≤ (p.nx.getD s []).getD c 0 ∨ (p.sy.getD s []).getD c 0 < 0 ∨ p.ab ≤ (p.sy.getD s []).getD c 0
instance (p : Mpr) (s c : Nat) : Decidable (p.bad s c) := by unfold Mpr.bad; infer_instance
def jT (p : Mpr) (s : Nat) : Int := if ¬ ((p.nx.getD s []).length : Int) = p.inp ∨ ¬ ((p.sy.getD s []).length : Int) = p.inp then 1 else if (List.range p.inp.toNat).any (fun c => decide (p.bad s c)) = true then 2 else 0
def cP (p : Mpr) : Int := if (p.inp < 1 ∨ 64 < p.inp) ∨ p.ab < 1 ∨ 64 < p.ab then 2 else if p.nx.length = 0 then 19 else if 128 < p.nx.length then 11 else if p.st < 0 ∨ (p.nx.length : Int) ≤ p.st then 2 else if ¬ p.sy.length = p.nx.length then 1 else d8 (jT p) p.nx.length
theorem dx {p : Mpr} {s : Nat} (h : ¬ ((p.nx.getD s []).length : Int) = p.inp ∨ ¬ ((p.sy.getD s []).length : Int) = p.inp) : jT p s = 1 := if_pos h
theorem dw {p : Mpr} {s c : Nat} (h : ((p.nx.getD s []).length : Int) = p.inp ∧ ((p.sy.getD s []).length : Int) = p.inp) (hc : (c : Int) < p.inp) (hb : p.bad s c) : jT p s = 2 := by
  unfold jT
  rw [if_neg (by omega), if_pos (List.any_eq_true.2 ⟨c, List.mem_range.2 (by omega), by simpa using hb⟩)]
theorem t3 {p : Mpr} {s : Nat} (h : ((p.nx.getD s []).length : Int) = p.inp ∧ ((p.sy.getD s []).length : Int) = p.inp) (hb : ∀ c : Nat, (c : Int) < p.inp → ¬ p.bad s c) : jT p s = 0 := by
  unfold jT
  rw [if_neg (by omega), if_neg]
  intro hh
  obtain ⟨c, hc, h2⟩ := List.any_eq_true.1 hh
  have := List.mem_range.1 hc
  exact hb c (by omega) (by simpa using h2)
theorem hG {p : Mpr} {s : Nat} (h : jT p s = 0) : (((p.nx.getD s []).length : Int) = p.inp ∧ ((p.sy.getD s []).length : Int) = p.inp) ∧ ∀ c : Nat, (c : Int) < p.inp → ¬ p.bad s c := by
  unfold jT at h
  split at h
  · omega
  · rename_i h1
    split at h
    · omega
    · rename_i h2
      refine ⟨by omega, fun c hc hb => h2 (List.any_eq_true.2 ⟨c, List.mem_range.2 (by omega), by simpa using hb⟩)⟩
structure POK (p : Mpr) : Prop where
  i1 : 1 ≤ p.inp
  i2 : p.inp ≤ 64
  b1 : 1 ≤ p.ab
  b2 : p.ab ≤ 64
  n1 : 1 ≤ p.nx.length
  n2 : p.nx.length ≤ 128
  s1 : 0 ≤ p.st
  s2 : p.st < p.nx.length
  sl : p.sy.length = p.nx.length
  rl : ∀ s : Nat, s < p.nx.length → ((p.nx.getD s []).length : Int) = p.inp
  ql : ∀ s : Nat, s < p.nx.length → ((p.sy.getD s []).length : Int) = p.inp
  cl : ∀ s c : Nat, s < p.nx.length → (c : Int) < p.inp → 0 ≤ (p.nx.getD s []).getD c 0 ∧ (p.nx.getD s []).getD c 0 < p.nx.length
  yl : ∀ s c : Nat, s < p.nx.length → (c : Int) < p.inp → 0 ≤ (p.sy.getD s []).getD c 0 ∧ (p.sy.getD s []).getD c 0 < p.ab
theorem pq {p : Mpr} (h : cP p = 0) : POK p := by
  unfold cP at h
  split at h
  · omega
  · split at h
    · omega
    · split at h
      · omega
      · split at h
        · omega
        · split at h
          · omega
          · have h3 := hU h
            refine ⟨by omega, by omega, by omega, by omega, by omega, by omega, by omega, by omega, by omega, fun s hs => (hG (h3 s hs)).1.1, fun s hs => (hG (h3 s hs)).1.2, fun s c hs hc => ?_, fun s c hs hc => ?_⟩
            · have := (hG (h3 s hs)).2 c hc; unfold Mpr.bad at this; omega
            · have := (hG (h3 s hs)).2 c hc; unfold Mpr.bad at this; omega
theorem POK.valid {p : Mpr} (h : POK p) : cP p = 0 := by
  have a1 := h.i1; have a2 := h.i2; have a3 := h.b1; have a4 := h.b2; have a5 := h.n1; have a6 := h.n2; have a7 := h.s1; have a8 := h.s2; have a9 := h.sl
  unfold cP
  rw [if_neg (by omega), if_neg (by omega), if_neg (by omega), if_neg (by omega), if_neg (by omega)]
  exact cd fun s hs => t3 ⟨h.rl s hs, h.ql s hs⟩ fun c hc hb => by
    have := h.cl s c hs hc; have := h.yl s c hs hc
    unfold Mpr.bad at hb; omega
def Mpr.tx (p : Mpr) (s c : Int) : Int := (p.nx.getD s.toNat []).getD c.toNat 0
def Mpr.sx (p : Mpr) (s c : Int) : Int := (p.sy.getD s.toNat []).getD c.toNat 0
theorem POK.tx {p : Mpr} (h : POK p) {s c : Int} (hs : 0 ≤ s ∧ s < p.nx.length) (hc : 0 ≤ c ∧ c < p.inp) : 0 ≤ p.tx s c ∧ p.tx s c < p.nx.length := h.cl s.toNat c.toNat (by omega) (by omega)
theorem POK.sx {p : Mpr} (h : POK p) {s c : Int} (hs : 0 ≤ s ∧ s < p.nx.length) (hc : 0 ≤ c ∧ c < p.inp) : 0 ≤ p.sx s c ∧ p.sx s c < p.ab := h.yl s.toNat c.toNat (by omega) (by omega)
/-! The abstract word. -/
def Mpr.rn (p : Mpr) (s : Int) (w : List Int) : Int := w.foldl (fun s c => p.tx s c) s
def Mpr.im (p : Mpr) : Int → List Int → List Int
  | _, [] => []
  | s, c :: w => p.sx s c :: p.im (p.tx s c) w
theorem tB (p : Mpr) : ∀ (w : List Int) (s : Int), (p.im s w).length = w.length
  | [], _ => rfl
  | _ :: w, _ => by simp [Mpr.im, tB p w]
def abE (p : Mpr) (w : List Int) : Int := if ¬ cP p = 0 then cP p else d4 w p.inp
def abV (p : Mpr) (w : List Int) : List Int := if abE p w = 0 then p.im p.st w else []
theorem vD {p : Mpr} {w : List Int} (h : cP p = 0) (h2 : d4 w p.inp = 0) : abE p w = 0 ∧ abV p w = p.im p.st w := by
  have e : abE p w = 0 := by unfold abE; rw [if_neg (fun k => k h), h2]
  exact ⟨e, by unfold abV; rw [if_pos e]⟩
/-! The first concrete word. -/
def fcP (p : Mpr) (can : List Bool) (x : Int) (s c : Nat) : Bool := decide ((p.sy.getD s []).getD c 0 = x) && can.getD ((p.nx.getD s []).getD c 0).toNat false
def fcV (p : Mpr) (can : List Bool) (x : Int) (s : Nat) : Nat := ((List.range p.inp.toNat).find? (fcP p can x s)).getD p.inp.toNat
def stC (p : Mpr) (can : List Bool) (x : Int) : List Bool := (List.range p.nx.length).map fun s => decide (fcV p can x s < p.inp.toNat)
def cnP (p : Mpr) : List Int → List Bool
  | [] => List.replicate p.nx.length true
  | x :: w => stC p (cnP p w) x
def coW (p : Mpr) : Int → List Int → List Int
  | _, [] => []
  | s, x :: w => (fcV p (cnP p w) x s.toNat : Int) :: coW p (p.tx s (fcV p (cnP p w) x s.toNat)) w
/-! One state. -/
def dG (cl : List Int) : Mpr := if df cl = 0 then ⟨cl.length, fV cl, 0, [List.replicate cl.length 0], [cl]⟩ else m5
end Go.AV
namespace Go.Proofs.YtceafldjjedhcaaDoor
open Go Go.AV
open Nat renaming reduceEqDiff → J, reduceAdd → E, reduceLeDiff → U, reduceLT → Z, reduceMul → V, reduceSub → Y
open List renaming set_cons_zero → aw, set_cons_succ → au
set_option maxRecDepth 100000 in
theorem tU (xs : List Int) (h0 : 0 < xs.length) (h1 : xs.length ≤ 10000000000000) : tc Tryd.prog 18 [.one (.list (.int .i64) xs)] (.int .i64) 3 (xs) := by
 refine jF Tryd.func18 rfl (by kernel_rfl) (Nat.le_of_ble_eq_true rfl) rfl fun C hP hN hB => ?_
 replace hN : C.N = 8 := hN
 simp only [ae, E]
 refine ah fun K1 hK1 => ?_
 refine ao hP hN rfl ?_
 (refine ag rfl fun K0 aa => ?_; simp only [zE, op1, ev, lkp, am, ak, ev, reduceCtorEq, J, E, U, Z, V, Y, Tryd.el25, Tryd.td25]; refine aa _ ?_; clear aa K0; simp only [put, app, af, aj, zE, zS, E])
 refine aq ?_
 refine hK1 _ ?_; clear hK1; refine ai [0, 2] ?_; simp only [ad, lkp, zE, reduceCtorEq, J, ae, E]
 refine ah fun K2 hK2 => ?_
 refine ah fun K3 hK3 => ?_
 refine ao hP hN rfl ?_
 iterate 2 (refine ag rfl fun K0 aa => ?_; simp only [zE, op1, ev, lkp, am, ak, aJ, aK, aI, ay, aH, aX, reduceCtorEq, J, E, U, Z, V, Y, Tryd.el25, Tryd.td25, Tryd.td4]; (repeat refine And.intro (by first | omega | assumption | exact rfl) ?_); refine aa _ ?_; clear aa K0; simp only [put, app, af, aj, zE, zS, E])
 refine aq ?_
 refine hK3 _ ?_; clear hK3; refine ai [0, 2, 4] ?_; simp only [ad, lkp, zE, reduceCtorEq, J, ae, E]
 refine aL (by simp only [ev, ad, lkp, zE, reduceCtorEq, J, ae, E]; exact rfl) (fun hc4 => ?_) (fun hc4 => ?_)
 · exfalso; (try simp only [zB, reduceCtorEq] at hc4); all_goals (first | (cases hc4; done) | omega | (simp at hc4; done) | (simp_all; done))
 ·(try simp only [zB, reduceCtorEq] at hc4)
  refine aT ?_
  refine hK2 _ ?_; clear hK2; refine ai [0, 2, 4] ?_; simp only [ad, lkp, zE, reduceCtorEq, J, ae, E]
  refine ah fun K5 hK5 => ?_
  refine ao hP hN rfl ?_
  (refine ag rfl fun K0 aa => ?_; simp only [zE, op1, ev, lkp, am, ak, b0, bl, c8, rep, aM, aR, ax, Ty.size, reduceCtorEq, J, E, U, Z, V, Y, Tryd.el25, Tryd.td25]; (repeat refine And.intro (by first | omega | assumption | exact rfl) ?_); refine Or.inr (Or.inl (aa _ ?_)); clear aa K0; simp only [put, app, af, aj, zE, zS, E])
  iterate 3 (refine ag rfl fun K0 aa => ?_; simp only [zE, op1, ev, lkp, am, ak, aP, bT, bC, bu, bv, bP, Nat.div_one, aV, bz, Ty.size, aM, dite_true, reduceCtorEq, J, E, U, Z, V, Y, Tryd.el25, Tryd.td25]; (repeat refine And.intro (by first | omega | assumption | exact rfl) ?_); (first | refine aa _ ?_ | refine Or.inl (aa _ ?_)); clear aa K0; simp only [put, app, af, aj, zE, zS, E])
  refine aq ?_
  refine hK5 _ ?_; clear hK5; refine ai [0, 2, 4] ?_; simp only [ad, lkp, zE, reduceCtorEq, J, ae, E]
  refine aU ?_
  refine ⟨by first | exact .inl rfl | exact .inr rfl, _, rfl, _, _, rfl, ?_⟩
  rfl
end Go.Proofs.YtceafldjjedhcaaDoor
namespace Go.Proofs.YtceafldjjedhcaaDoor
open Go Go.AV
open Nat renaming reduceEqDiff → J, reduceAdd → E, reduceLeDiff → U, reduceLT → Z, reduceMul → V, reduceSub → Y
open List renaming set_cons_zero → aw, set_cons_succ → au
open Go.Shelf in
def Tryd.laysNm220_ren : Go.Shelf.Ren := ⟨fun | 20 => 36 | n => n, fun | 22 => 25 | 3 => 3 | 4 => 4 | 0 => 0 | n => n, fun | n => n⟩
theorem Tryd.laysNm220 : Go.Proofs.Lays2.n20 Tryd.prog Tryd.laysNm220_ren := {
  mixed := by kernel_rfl,
  f20 := Tryd.func36.trans (congrArg some (by kernel_rfl)),
  t0 := Tryd.underlying0,
  a0 := Tryd.isAgg0,
  z0 := Tryd.sizeOf0,
  v0 := Tryd.zeroValue0,
  t3 := Tryd.underlying3,
  a3 := Tryd.isAgg3,
  z3 := Tryd.sizeOf3,
  v3 := Tryd.zeroValue3,
  t4 := Tryd.underlying4,
  a4 := Tryd.isAgg4,
  z4 := Tryd.sizeOf4,
  v4 := Tryd.zeroValue4,
  t22 := Tryd.underlying25,
  a22 := Tryd.isAgg25,
  z22 := Tryd.sizeOf25,
  v22 := Tryd.zeroValue25,
  i3 := by kernel_rfl }
theorem ga : oz Tryd.prog 36 := ⟨⟨Tryd.f36, Tryd.func36, by kernel_rfl, by kernel_rfl⟩, fun blk off cap zs w hH hb hz => Any.slices_Compact_int Tryd.laysNm220 blk off cap zs w hH hb hz⟩
end Go.Proofs.YtceafldjjedhcaaDoor
namespace Go.AV
open Nat renaming reduceEqDiff → J, reduceAdd → E, reduceLeDiff → U, reduceLT → Z, reduceMul → V, reduceSub → Y
open List renaming set_cons_zero → aw, set_cons_succ → au
/-plain-/
theorem ca (n : Int) : inK .u64 n ↔ 0 ≤ n ∧ n ≤ 18446744073709551615 := by
  simp [inK, IntKind.min, IntKind.max, IntKind.signed, IntKind.bits]
def uC : List UInt8 := [48, 49, 50, 51, 52, 53, 54, 55, 56, 57, 97, 98, 99, 100, 101, 102, 103, 104, 105, 106, 107, 108, 109, 110, 111, 112, 113, 114, 115, 116, 117, 118, 119, 120, 121, 122]
def c36 (n : Nat) : Int := ((uC.getD n 0).toNat : Int)
def fK : Nat → Nat → List Int
  | 0, n => [c36 n]
  | f + 1, n => if n < 36 then [c36 n] else fK f (n / 36) ++ [c36 (n % 36)]
def d36 (n : Nat) : List Int := fK 3 n
theorem nu {f n : Nat} (h : 36 ≤ n) : fK (f + 1) n = fK f (n / 36) ++ [c36 (n % 36)] := by simp only [fK]; rw [if_neg (by omega)]
theorem m9 {f n : Nat} (h : n < 36) : fK f n = [c36 n] := by
  cases f with
  | zero => rfl
  | succ f => simp only [fK]; rw [if_pos h]
def bcl (l : List Int) : List AC := l.map (AC.int .u8)
theorem cz (l : List Int) : (bcl l).length = l.length := by simp [bcl]
theorem cA (n : Nat) (z : Int) : List.replicate n (AC.int .u8 z) = bcl (List.replicate n z) := by simp [bcl]
theorem mI {l : List Int} {off : Nat} (h : off < l.length) (v : Int) : aR (bcl l) off [.int .u8 v] = bcl (l.set off v) := by
  unfold aR bcl
  rw [List.set_eq_take_append_cons_drop, if_pos h]
  simp [List.map_take, List.map_drop]
theorem oP {l : List Int} {i j : Nat} (h : i < j) (v : Int) : (l.set i v).drop j = l.drop j := by
  rw [List.drop_set]; rw [if_pos h]
theorem jK {l : List Int} {i : Nat} (h : i < l.length) (v : Int) : (l.set i v).drop i = v :: l.drop (i + 1) := by
  rw [List.drop_eq_getElem_cons (by simpa using h)]
  rw [List.getElem_set_self, oP (by omega)]
def B36 (j u : Nat) : Prop := (j = 0 ∧ u < 1679616) ∨ (j = 1 ∧ u < 46656) ∨ (j = 2 ∧ u < 1296) ∨ (j = 3 ∧ u < 36)
theorem tR {j u : Nat} (h : B36 j u) (hu : 36 ≤ u) : B36 (j + 1) (u / 36) ∧ j ≤ 2 := by unfold B36 at *; omega
theorem oU {j u : Nat} (h : B36 j u) : j ≤ 3 ∧ u < 1679616 := by unfold B36 at h; omega
/-- What is written after j digits: u is left. -/
structure BUF (n u j : Nat) (l : List Int) : Prop where
  b : B36 j u
  len : l.length = 65
  eq : d36 n = fK (3 - j) u ++ l.drop (65 - j)
theorem u3 {n u j : Nat} {l : List Int} (h : BUF n u j l) (hu : 36 ≤ u) : BUF n (u / 36) (j + 1) (l.set (64 - j) (c36 (u % 36))) := by
  obtain ⟨b1, b2⟩ := tR h.b hu
  have hl := h.len
  refine ⟨b1, by simpa using hl, ?_⟩
  have e := h.eq
  rw [show 3 - j = (3 - (j + 1)) + 1 by omega, nu hu, List.append_assoc] at e
  rw [e, show 65 - (j + 1) = 64 - j by omega, jK (by omega), show 64 - j + 1 = 65 - j by omega]; rfl
theorem tT {n u j : Nat} {l : List Int} (h : BUF n u j l) (hu : u < 36) : d36 n = (l.set (64 - j) (c36 u)).drop (64 - j) := by
  have hl := h.len
  have hb := oU h.b
  rw [h.eq, m9 hu, jK (by omega), show 64 - j + 1 = 65 - j by omega]; rfl
theorem x6 {n : Nat} (h : n < 1679616) : BUF n n 0 (List.replicate 65 0) := ⟨.inl ⟨rfl, h⟩, by simp, by simp [d36]⟩
theorem ma {n : Nat} : (d36 n).length ≤ 4 := by
  have key : ∀ f n, (fK f n).length ≤ f + 1 := fun f => by
    induction f with
    | zero => intro n; simp [fK]
    | succ f ih =>
      intro n
      simp only [fK]
      split
      · simp
      · rw [List.length_append]; have := ih (n / 36); simp; omega
  exact key 3 n
end Go.AV
namespace Go.AV
open Nat renaming reduceEqDiff → J, reduceAdd → E, reduceLeDiff → U, reduceLT → Z, reduceMul → V, reduceSub → Y
open List renaming set_cons_zero → aw, set_cons_succ → au
/-plain-/
/-! On d36Th: the key of a set. -/
def gB8 (n : Int) : UInt8 := UInt8.ofNat n.toNat
def kI (x : Int) : List Int := d36 x.toNat ++ [32]
def gm (xs : List Int) : List Int := xs.flatMap kI
def eS (xs : List Int) : List UInt8 := (gm xs).map fun n => UInt8.ofNat n.toNat
def KB (xs : List Int) : Prop := ∀ x ∈ xs, 0 ≤ x ∧ x < 1679616
theorem sq {xs : List Int} {k n : Nat} (h : k < xs.length) (hn : xs.getD k 0 = (n : Int)) : gm (xs.take (k + 1)) = (gm (xs.take k) ++ d36 n) ++ [32] := by
  unfold gm
  rw [l8 0 h, List.flatMap_append, List.flatMap_singleton, hn]
  unfold kI
  rw [Int.toNat_natCast, List.append_assoc]
theorem kH (xs : List Int) : (gm xs).length ≤ 5 * xs.length := by
  unfold gm
  induction xs with
  | nil => simp
  | cons x xs ih =>
    rw [List.flatMap_cons, List.length_append, List.length_cons]
    unfold kI at ih ⊢
    rw [List.length_append]
    have := ma (n := x.toNat)
    simp only [List.length_cons, List.length_nil]
    omega
def dvB (c : UInt8) : Nat := uC.findIdx (· == c)
def pd (l : List UInt8) : Nat := l.foldl (fun a c => a * 36 + dvB c) 0
theorem se (d : Nat) (h : d < 36) : dvB (gB8 (c36 d)) = d ∧ gB8 (c36 d) ≠ 32 := by
  have key : ∀ d : Fin 36, dvB (gB8 (c36 d.val)) = d.val ∧ gB8 (c36 d.val) ≠ 32 := by decide
  exact key ⟨d, h⟩
theorem gC : ∀ (f n : Nat), n < 36 ^ (f + 1) → pd ((fK f n).map gB8) = n ∧ ∀ c ∈ (fK f n).map gB8, c ≠ 32
  | 0, n, h => by
    have := se n (by simpa using h)
    refine ⟨by simp [fK, pd, this.1], fun c hc => ?_⟩
    simp only [fK, List.map_cons, List.map_nil, List.mem_singleton] at hc
    rw [hc]; exact this.2
  | f + 1, n, h => by
    by_cases e : n < 36
    · rw [m9 e]
      have := se n e
      refine ⟨by simp [pd, this.1], fun c hc => ?_⟩
      simp only [List.map_cons, List.map_nil, List.mem_singleton] at hc
      rw [hc]; exact this.2
    · rw [nu (by omega)]
      obtain ⟨i1, i2⟩ := gC f (n / 36) (by rw [Nat.pow_succ] at h; omega)
      have := se (n % 36) (by omega)
      refine ⟨?_, fun c hc => ?_⟩
      · unfold pd at i1 ⊢
        rw [List.map_append, List.foldl_append, i1]
        simp only [List.map_cons, List.map_nil, List.foldl_cons, List.foldl_nil, this.1]
        omega
      · rw [List.map_append, List.mem_append] at hc
        rcases hc with hc | hc
        · exact i2 c hc
        · simp only [List.map_cons, List.map_nil, List.mem_singleton] at hc
          rw [hc]; exact this.2
theorem v3 {a b : Nat} (ha : a < 1679616) (hb : b < 1679616) (h : (d36 a).map gB8 = (d36 b).map gB8) : a = b := by
  have e1 := (gC 3 a (by simpa using ha)).1
  have e2 := (gC 3 b (by simpa using hb)).1
  unfold d36 at h
  rw [← e1, ← e2, h]
theorem o4 : ∀ {u v a b : List UInt8}, (∀ c ∈ u, c ≠ 32) → (∀ c ∈ v, c ≠ 32) → u ++ 32 :: a = v ++ 32 :: b → u = v ∧ a = b
  | [], [], _, _, _, _, h => ⟨rfl, (List.cons.inj h).2⟩
  | [], y :: _, _, _, _, h2, h => absurd (List.cons.inj h).1.symm (h2 y (List.mem_cons_self ..))
  | x :: _, [], _, _, h1, _, h => absurd (List.cons.inj h).1 (h1 x (List.mem_cons_self ..))
  | x :: u, y :: v, a, b, h1, h2, h => by
    obtain ⟨e1, e2⟩ := List.cons.inj h
    obtain ⟨i1, i2⟩ := o4 (fun c hc => h1 c (List.mem_cons_of_mem _ hc)) (fun c hc => h2 c (List.mem_cons_of_mem _ hc)) e2
    exact ⟨by rw [e1, i1], i2⟩
theorem gG (x : Int) (xs : List Int) : eS (x :: xs) = (d36 x.toNat).map gB8 ++ 32 :: eS xs := by
  unfold eS gm
  rw [List.flatMap_cons, List.map_append]
  unfold kI
  rw [List.map_append, List.append_assoc]; rfl
theorem oo : ∀ {xs ys : List Int}, KB xs → KB ys → eS xs = eS ys → xs = ys
  | [], [], _, _, _ => rfl
  | [], y :: ys, _, _, h => by
    rw [gG] at h
    have := congrArg List.length h
    simp [eS, gm] at this
  | x :: xs, [], _, _, h => by
    rw [gG] at h
    have := congrArg List.length h
    simp [eS, gm] at this
  | x :: xs, y :: ys, hx, hy, h => by
    have hx0 := hx x (List.mem_cons_self ..)
    have hy0 := hy y (List.mem_cons_self ..)
    rw [gG, gG] at h
    obtain ⟨e1, e2⟩ := o4 (gC 3 x.toNat (by simp; omega)).2 (gC 3 y.toNat (by simp; omega)).2 h
    have e3 := v3 (by omega) (by omega) e1
    rw [show x = y by omega, oo (fun z hz => hx z (List.mem_cons_of_mem _ hz)) (fun z hz => hy z (List.mem_cons_of_mem _ hz)) e2]
end Go.AV
namespace Go.AV
open Nat renaming reduceEqDiff → J, reduceAdd → E, reduceLeDiff → U, reduceLT → Z, reduceMul → V, reduceSub → Y
open List renaming set_cons_zero → aw, set_cons_succ → au
/-plain-/
theorem o0 {l : List Int} {t x : Int} : x ∈ cw l t ↔ x ∈ l ∨ x = t := by
  unfold cw
  split
  · rename_i h
    constructor
    · exact .inl
    · rintro (h1 | rfl)
      · exact h1
      · exact h
  · simp
theorem fJ {r : List Int} : ∀ {l : List Int} {x : Int}, x ∈ r.foldl cw l ↔ x ∈ l ∨ x ∈ r := by
  induction r with
  | nil => intro l x; simp
  | cons t r ih => intro l x; simp only [List.foldl_cons, ih, o0, List.mem_cons]; exact or_assoc
theorem ka (l : List Int) (t : Int) : ∃ k, cw l t = l ++ k := by
  unfold cw
  split
  · exact ⟨[], by simp⟩
  · exact ⟨[t], rfl⟩
theorem mr (r : List Int) : ∀ l : List Int, ∃ k, r.foldl cw l = l ++ k := by
  induction r with
  | nil => intro l; exact ⟨[], by simp⟩
  | cons t r ih =>
    intro l
    obtain ⟨k1, h1⟩ := ka l t
    obtain ⟨k2, h2⟩ := ih (cw l t)
    exact ⟨k1 ++ k2, by simp only [List.foldl_cons]; rw [h2, h1, List.append_assoc]⟩
theorem iK (m : Mly) : ∀ (f i : Nat) (l : List Int), ∃ k, m.rf f i l = l ++ k
  | 0, i, l => ⟨[], by simp [Mly.rf]⟩
  | f + 1, i, l => by
    simp only [Mly.rf]
    split
    · obtain ⟨k1, h1⟩ := mr (m.row (l.getD i 0)) l
      obtain ⟨k2, h2⟩ := iK m f (i + 1) ((m.row (l.getD i 0)).foldl cw l)
      exact ⟨k1 ++ k2, by rw [h2, h1, List.append_assoc]⟩
    · exact ⟨[], by simp⟩
theorem nW {l k : List Int} {i : Nat} (h : i < l.length) : (l ++ k).getD i 0 = l.getD i 0 := by
  simp [List.getD, List.getElem?_append_left h]

/-- What is reached is closed. -/
theorem mU {m : Mly} (hm : MOK m) : ∀ (f i : Nat) (l : List Int), RSet m.nx.length l → m.nx.length ≤ f + i → (∀ j, j < i → j < l.length → ∀ x, x ∈ m.row (l.getD j 0) → x ∈ l) →
    ∀ j, j < (m.rf f i l).length → ∀ x, x ∈ m.row ((m.rf f i l).getD j 0) → x ∈ m.rf f i l
  | 0, i, l, hl, hf, hc => by
    have := hl.len
    intro j hj
    simp only [Mly.rf] at *
    exact hc j (by omega) hj
  | f + 1, i, l, hl, hf, hc => by
    simp only [Mly.rf]
    split
    · rename_i hi
      have hr := hl.at_ hi
      refine mU hm f (i + 1) _ (hl.fold (iv hm hr.1 hr.2)) (by omega) fun j hj hjl x hx => ?_
      obtain ⟨k, hk⟩ := mr (m.row (l.getD i 0)) l
      rw [fJ]
      by_cases e : j = i
      · subst e
        rw [hk, nW hi] at hx
        exact .inr hx
      · have hjl2 : j < l.length := by omega
        rw [hk, nW hjl2] at hx
        exact .inl (hc j (by omega) hjl2 x hx)
    · rename_i hi
      intro j hj
      exact hc j (by omega) hj
theorem er {m : Mly} (hm : MOK m) {s : Int} (hs : s ∈ m.reach) {x : Int} (hx : x ∈ m.row s) : x ∈ m.reach := by
  rw [dq (cI hm)] at hs ⊢
  obtain ⟨j, hj⟩ := List.getElem?_of_mem hs
  have hjl := (List.getElem?_eq_some_iff.1 hj).1
  have e : (m.rf (m.nx.length + 1) 0 [m.st]).getD j 0 = s := by simp [List.getD, hj]
  exact mU hm _ _ _ (fF hm) (by omega) (fun j hj => by omega) j hjl x (by rw [e]; exact hx)
theorem gl {m : Mly} (hm : MOK m) : ∃ k, m.reach = m.st :: k := by
  rw [dq (cI hm)]
  obtain ⟨k, hk⟩ := iK m (m.nx.length + 1) 0 [m.st]
  exact ⟨k, by rw [hk]; rfl⟩

/-- More fuel changes nothing. -/
theorem ng {m : Mly} (hm : MOK m) : ∀ (f i : Nat) (l : List Int), RSet m.nx.length l → m.nx.length ≤ f + i → ∀ g, f ≤ g → m.rf g i l = m.rf f i l
  | 0, i, l, hl, hf, g, hg => by
    have := hl.len
    rw [eZ m g i l (by omega), eZ m 0 i l (by omega)]
  | f + 1, i, l, hl, hf, g, hg => by
    obtain ⟨g, rfl⟩ : ∃ g', g = g' + 1 := ⟨g - 1, by omega⟩
    simp only [Mly.rf]
    split
    · rename_i hi
      have hr := hl.at_ hi
      exact ng hm f (i + 1) _ (hl.fold (iv hm hr.1 hr.2)) (by omega) g (by omega)
    · rfl

/-! ### the numbers -/
theorem mO {xs : List Int} {i : Nat} (h : i < xs.length) (v : Int) : (xs.set i v).getD i 0 = v := by simp [List.getD, h]
theorem pe {xs : List Int} {i j : Nat} (h : i ≠ j) (v : Int) : (xs.set i v).getD j 0 = xs.getD j 0 := by simp [List.getD, List.getElem?_set_ne h]
theorem qW {l : List Int} (h : l.Nodup) {i j : Nat} (hi : i < l.length) (hj : j < l.length) (e : l.getD i 0 = l.getD j 0) : i = j := by
  simp [List.getD, hi, hj] at e
  exact (List.getElem_inj h).1 e
theorem pT {n : Nat} {l : List Int} (h : RSet n l) : ∀ k, k ≤ l.length → ∀ i, i < k → (lZ n l k).getD (l.getD i 0).toNat 0 = i
  | 0, _, i, hi => by omega
  | k + 1, hk, i, hi => by
    simp only [lZ]
    have hk1 := h.at_ (i := k) (by omega)
    by_cases e : i = k
    · subst e
      exact mO (by rw [o3]; omega) _
    · have hi1 := h.at_ (i := i) (by omega)
      rw [pe]
      · exact pT h k (by omega) i (by omega)
      · intro e2
        have := qW h.nd (i := k) (j := i) (by omega) (by omega) (by omega)
        omega
/-- The number of a state. -/
def Mly.ix (m : Mly) (s : Int) : Int := m.num.getD s.toNat 0
theorem p6 {m : Mly} (hm : MOK m) {i : Nat} (hi : i < m.reach.length) : m.ix (m.reach.getD i 0) = i := pT (eF hm) _ (Nat.le_refl _) i hi
theorem th {l : List Int} {s : Int} (h : s ∈ l) : ∃ i, i < l.length ∧ l.getD i 0 = s := by
  obtain ⟨i, hi⟩ := List.getElem?_of_mem h
  exact ⟨i, (List.getElem?_eq_some_iff.1 hi).1, by simp [List.getD, hi]⟩
theorem oQ {m : Mly} (hm : MOK m) {s : Int} (hs : s ∈ m.reach) : 0 ≤ m.ix s ∧ m.ix s < m.reach.length := by
  obtain ⟨i, hi, rfl⟩ := th hs
  rw [p6 hm hi]; omega
theorem mz {m : Mly} (hm : MOK m) {s : Int} (hs : s ∈ m.reach) : m.reach.getD (m.ix s).toNat 0 = s := by
  obtain ⟨i, hi, rfl⟩ := th hs
  rw [p6 hm hi]; simp
theorem wH {m : Mly} (hm : MOK m) {s t : Int} (hs : s ∈ m.reach) (ht : t ∈ m.reach) (e : m.ix s = m.ix t) : s = t := by
  rw [← mz hm hs, ← mz hm ht, e]
theorem wx {m : Mly} (hm : MOK m) : m.reach.map m.ix = (List.range m.reach.length).map (fun (i : Nat) => (i : Int)) := by
  apply List.ext_getElem
  · simp
  · intro i h1 h2
    simp only [List.length_map] at h1
    have := p6 hm h1
    simp [List.getD, h1] at this
    simp [this]

/-! ### the trimmed machine -/
def Mly.T (m : Mly) : Mly := ⟨m.inp, 0, m.tnx, m.tot⟩
theorem sD (m : Mly) : m.T.nx.length = m.reach.length := by simp [Mly.T, Mly.tnx]
theorem lV {m : Mly} (hm : MOK m) : 1 ≤ m.reach.length := by
  obtain ⟨k, hk⟩ := gl hm
  rw [hk]; simp
theorem dI {α β : Type} (f : α → β) {l : List α} {i : Nat} (d : α) (e : β) (h : i < l.length) : (l.map f).getD i e = f (l.getD i d) := by simp [List.getD, h]
theorem pr {m : Mly} {i : Nat} (hi : i < m.reach.length) : m.T.nx.getD i [] = (m.row (m.reach.getD i 0)).map m.ix := by
  show m.tnx.getD i [] = _
  unfold Mly.tnx
  rw [dI _ 0 _ hi]; rfl
theorem rY {m : Mly} {i : Nat} (hi : i < m.reach.length) : m.T.ot.getD i [] = m.ot.getD (m.reach.getD i 0).toNat [] := by
  show m.tot.getD i [] = _
  unfold Mly.tot
  rw [dI _ 0 _ hi]
theorem t6 {m : Mly} (hm : MOK m) : MOK m.T := by
  have hR := eF hm
  have hl := hR.len
  have hp := lV hm
  have hT := sD m
  have hn2 := hm.n2
  have htl : m.T.ot.length = m.reach.length := by simp [Mly.T, Mly.tot]
  refine ⟨hm.i1, hm.i2, by omega, by omega, Int.le_refl 0, by show (0 : Int) < _; omega, by omega, fun s hs => ?_, fun s hs => ?_, fun s a hs ha => ?_, fun s a hs ha => ?_⟩
  · rw [pr (by omega)]
    have := hR.at_ (i := s) (by omega)
    have h1 := hm.rl (m.reach.getD s 0).toNat (by omega)
    rw [List.length_map]; exact h1
  · rw [rY (by omega)]
    have := hR.at_ (i := s) (by omega)
    exact hm.ql (m.reach.getD s 0).toNat (by omega)
  · have h0 := hR.at_ (i := s) (by omega)
    have h1 : ((m.row (m.reach.getD s 0)).length : Int) = m.inp := hm.rl (m.reach.getD s 0).toNat (by omega)
    have ha' : (a : Int) < m.inp := ha
    rw [pr (by omega), dI m.ix 0 0 (by omega)]
    have hmem := er hm (s := m.reach.getD s 0) (cU (by omega)) (x := (m.row (m.reach.getD s 0)).getD a 0) (cU (by omega))
    have := oQ hm hmem
    omega
  · rw [rY (by omega)]
    have := hR.at_ (i := s) (by omega)
    exact hm.or (m.reach.getD s 0).toNat a (by omega) ha
theorem nt {f : Int → Int} {R : List Int} (hf : ∀ x y, x ∈ R → y ∈ R → f x = f y → x = y) : ∀ (r l : List Int), (∀ x, x ∈ r → x ∈ R) → (∀ x, x ∈ l → x ∈ R) → (r.map f).foldl cw (l.map f) = (r.foldl cw l).map f
  | [], l, _, _ => rfl
  | t :: r, l, hr, hl => by
    simp only [List.map_cons, List.foldl_cons]
    have ht := hr t (by simp)
    have e : cw (l.map f) (f t) = (cw l t).map f := by
      by_cases h : t ∈ l
      · rw [fc h, fc (List.mem_map.2 ⟨t, h, rfl⟩)]
      · rw [ef h, ef, List.map_append]
        · rfl
        · intro hh
          obtain ⟨x, hx, e⟩ := List.mem_map.1 hh
          exact h (hf x t (hl x hx) ht e ▸ hx)
    rw [e]
    exact nt hf r (cw l t) (fun x hx => hr x (by simp [hx])) (fun x hx => by
      rcases o0.1 hx with h | rfl
      · exact hl x h
      · exact ht)
theorem tn {m : Mly} (hm : MOK m) : ∀ (f i : Nat) (l : List Int), (∀ x, x ∈ l → x ∈ m.reach) → m.T.rf f i (l.map m.ix) = (m.rf f i l).map m.ix
  | 0, i, l, _ => rfl
  | f + 1, i, l, hl => by
    simp only [Mly.rf, List.length_map]
    split
    · rename_i hi
      have hx := hl (l.getD i 0) (cU hi)
      have e : m.T.row ((l.map m.ix).getD i 0) = (m.row (l.getD i 0)).map m.ix := by
        rw [dI m.ix 0 0 hi]
        have h1 := oQ hm hx
        show m.T.nx.getD (m.ix (l.getD i 0)).toNat [] = _
        rw [pr (by omega), mz hm hx]
      rw [e, nt (R := m.reach) (fun x y hx hy e => wH hm hx hy e) _ _ (fun x hx' => er hm hx hx') hl]
      exact tn hm f (i + 1) _ (fun x hx' => by
        rcases fJ.1 hx' with h | h
        · exact hl x h
        · exact er hm hx h)
    · rfl
theorem vS {m : Mly} (hm : MOK m) : m.ix m.st = 0 := by
  obtain ⟨k, hk⟩ := gl hm
  have := p6 hm (i := 0) (lV hm)
  rw [hk] at this
  exact this
theorem ut {m : Mly} (hm : MOK m) : m.T.reach = (List.range m.reach.length).map (fun (i : Nat) => (i : Int)) := by
  rw [dq (cI (t6 hm)), ← wx hm, sD]
  have e : ([m.T.st] : List Int) = [m.st].map m.ix := by simp [Mly.T, vS hm]
  rw [e, tn hm _ _ _ (fun x hx => by
    obtain ⟨k, hk⟩ := gl hm
    simp at hx; subst hx; rw [hk]; simp)]
  congr 1
  rw [dq (cI hm)]
  have hl := (eF hm).len
  have h1 := (t6 hm)
  -- both have enough fuel
  rw [← dq (cI hm)]
  have key : ∀ (f i : Nat) (l : List Int), (∀ x, x ∈ m.rf f i l → x ∈ m.reach) → RSet m.nx.length l → m.nx.length ≤ f + i → ∀ g, m.reach.length ≤ g + i → m.rf g i l = m.rf f i l := by
    intro f
    induction f with
    | zero =>
      intro i l _ hl hf g hg
      have := hl.len
      rw [eZ m g i l (by omega), eZ m 0 i l (by omega)]
    | succ f ih =>
      intro i l hsub hl hf g hg
      by_cases hi : i < l.length
      · cases g with
        | zero =>
          -- i < l.length ≤ reach.length ≤ i
          exfalso
          obtain ⟨k, hk⟩ := iK m (f + 1) i l
          have h2 : l.length ≤ m.reach.length := by
            have hnd : l.Nodup := hl.nd
            have hsub2 : ∀ x, x ∈ l → x ∈ m.reach := fun x hx => hsub x (by rw [hk]; simp [hx])
            exact gN l m.reach hnd hsub2
          omega
        | succ g =>
          rw [fP m g i l hi, fP m f i l hi]
          have hr := hl.at_ hi
          refine ih (i + 1) _ (fun x hx => hsub x (by rw [fP m f i l hi]; exact hx)) (hl.fold (iv hm hr.1 hr.2)) (by omega) g (by omega)
      · rw [eZ m g i l (by omega), eZ m (f + 1) i l (by omega)]
  rw [key (m.nx.length + 1) 0 [m.st] (fun x hx => by rw [dq (cI hm)]; exact hx) (fF hm) (by omega) (m.reach.length + 1) (by omega)]
  exact (dq (cI hm)).symm
/-- Both run alike. -/
theorem xg {m : Mly} (hm : MOK m) {s : Int} (hs : s ∈ m.reach) : ∀ (w : List Int), (∀ i : Nat, i < w.length → 0 ≤ w.getD i 0 ∧ w.getD i 0 < m.inp) →
    (m.go s w).1 ∈ m.reach ∧ (m.T.go (m.ix s) w).1 = m.ix (m.go s w).1 ∧ (m.T.go (m.ix s) w).2 = (m.go s w).2 := by
  intro w hw
  have key : ∀ k, k ≤ w.length → (m.go s (w.take k)).1 ∈ m.reach ∧ (m.T.go (m.ix s) (w.take k)).1 = m.ix (m.go s (w.take k)).1 ∧ (m.T.go (m.ix s) (w.take k)).2 = (m.go s (w.take k)).2 := by
    intro k
    induction k with
    | zero => intro _; exact ⟨by simpa [wr] using hs, rfl, rfl⟩
    | succ k ih =>
      intro hk
      obtain ⟨h1, h2, h3⟩ := ih (by omega)
      have ha := hw k (by omega)
      rw [qA m s (by omega), qA m.T _ (by omega), h2, h3]
      have hx := oQ hm h1
      have hR := (eF hm).rng _ h1
      have hrl : ((m.row (m.go s (w.take k)).1).length : Int) = m.inp := hm.rl _ (by omega)
      have e1 : m.T.nxt (m.ix (m.go s (w.take k)).1) (w.getD k 0) = m.ix (m.nxt (m.go s (w.take k)).1 (w.getD k 0)) := by
        show (m.T.nx.getD _ []).getD _ 0 = _
        rw [pr (by omega), mz hm h1, dI m.ix 0 0 (by omega)]; rfl
      have e2 : m.T.out (m.ix (m.go s (w.take k)).1) (w.getD k 0) = m.out (m.go s (w.take k)).1 (w.getD k 0) := by
        show (m.T.ot.getD _ []).getD _ 0 = _
        rw [rY (by omega), mz hm h1]; rfl
      refine ⟨er hm h1 (cU (by omega)), e1, ?_⟩
      show _ ++ [_] = _ ++ [_]
      rw [e2]
  have := key w.length (Nat.le_refl _)
  rwa [List.take_length] at this
end Go.AV
namespace Go.AV
open Nat renaming reduceEqDiff → J, reduceAdd → E, reduceLeDiff → U, reduceLT → Z, reduceMul → V, reduceSub → Y
open List renaming set_cons_zero → aw, set_cons_succ → au
/-plain-/
/-! Sorted lists without repetition. -/
theorem iG (xs : List Int) (j : Nat) : xs.toArray[j]! = xs.getD j 0 := by
  by_cases h : j < xs.length
  · rw [getElem!_pos _ _ (by simpa using h)]; simp [List.getD, h]
  · rw [getElem!_neg _ _ (by simpa using h)]; simp [List.getD, h]
theorem qg (xs : List Int) (hs : ∀ i j, i ≤ j → j < xs.length → xs.getD i 0 ≤ xs.getD j 0) : ∀ m, m ≤ xs.length →
    (Lib.compactUpTo xs.toArray m).Pairwise (· < ·) ∧ ∀ x, x ∈ Lib.compactUpTo xs.toArray m ↔ ∃ j, j < m ∧ xs.getD j 0 = x
  | 0, _ => by simp [Lib.compactUpTo]
  | m + 1, hm => by
    obtain ⟨h1, h2⟩ := qg xs hs m (by omega)
    rw [Lib.compactUpTo_succ]
    cases hk : Lib.keeps xs.toArray m with
    | true =>
      simp only [if_true]
      have hb : m = 0 ∨ xs.getD m 0 ≠ xs.getD (m - 1) 0 := by
        have := of_decide_eq_true hk
        rwa [iG, iG] at this
      refine ⟨?_, fun x => ?_⟩
      · rw [List.pairwise_append]
        refine ⟨h1, by simp, fun a ha b hb2 => ?_⟩
        obtain ⟨j, hj, e⟩ := (h2 a).1 ha
        rw [List.mem_singleton, iG] at hb2
        rw [hb2, ← e]
        have q1 := hs j (m - 1) (by omega) (by omega)
        have q2 := hs (m - 1) m (by omega) (by omega)
        omega
      · rw [List.mem_append, h2, List.mem_singleton, iG]
        constructor
        · rintro (⟨j, hj, e⟩ | e)
          · exact ⟨j, by omega, e⟩
          · exact ⟨m, by omega, e.symm⟩
        · rintro ⟨j, hj, e⟩
          by_cases hjm : j = m
          · exact .inr (by rw [← e, hjm])
          · exact .inl ⟨j, by omega, e⟩
    | false =>
      simp only [Bool.false_eq_true, if_false, List.append_nil]
      have hb : m ≠ 0 ∧ xs.getD m 0 = xs.getD (m - 1) 0 := by
        have := of_decide_eq_false hk
        rw [iG, iG] at this
        refine ⟨fun e => this (.inl e), ?_⟩
        false_or_by_contra
        rename_i hh
        exact this (.inr hh)
      refine ⟨h1, fun x => ?_⟩
      rw [h2]
      constructor
      · rintro ⟨j, hj, e⟩; exact ⟨j, by omega, e⟩
      · rintro ⟨j, hj, e⟩
        by_cases hjm : j = m
        · exact ⟨m - 1, by omega, by rw [← e, hjm, hb.2]⟩
        · exact ⟨j, by omega, e⟩
theorem ky {xs : List Int} {x : Int} : x ∈ xs ↔ ∃ j, j < xs.length ∧ xs.getD j 0 = x := by
  constructor
  · intro h
    obtain ⟨j, hj⟩ := List.getElem?_of_mem h
    exact ⟨j, (List.getElem?_eq_some_iff.1 hj).1, by simp [List.getD, hj]⟩
  · rintro ⟨j, hj, e⟩; rw [← e]; exact cU hj
def eC (xs : List Int) : List Int := xs.mergeSort fun x y => decide (x ≤ y)
theorem tC (xs : List Int) : ∀ i j, i ≤ j → j < (eC xs).length → (eC xs).getD i 0 ≤ (eC xs).getD j 0 := by
  intro i j hij hj
  by_cases e : i = j
  · rw [e]; omega
  · have hp : (eC xs).Pairwise (fun x y => decide (x ≤ y) = true) := List.pairwise_mergeSort (le := fun x y => decide (x ≤ y)) (fun a b c h1 h2 => by simp at *; omega) (fun a b => by simp; omega) xs
    have := List.pairwise_iff_getElem.1 hp i j (by omega) hj (by omega)
    simp [List.getD, hj, show i < (eC xs).length by omega]
    simpa using this
theorem rK {xs : List Int} {x : Int} : x ∈ eC xs ↔ x ∈ xs := List.mem_mergeSort
theorem dP (xs : List Int) : (eC xs).length = xs.length := List.length_mergeSort _
def j4 (xs : List Int) : List Int := Lib.compact (eC xs)
theorem cW (xs : List Int) : (j4 xs).Pairwise (· < ·) ∧ ∀ x, x ∈ j4 xs ↔ x ∈ xs := by
  obtain ⟨h1, h2⟩ := qg (eC xs) (tC xs) _ (Nat.le_refl _)
  refine ⟨h1, fun x => ?_⟩
  rw [j4, Lib.compact, h2, ← ky, rK]
theorem fz {xs : List Int} : (Lib.compact xs).length ≤ xs.length := by
  unfold Lib.compact Lib.compactUpTo
  rw [List.length_map]
  exact Nat.le_trans (List.length_filter_le _ _) (by simp)
/-! Insertion. -/
/-! The reference's trimmed machine. -/
/-! Traces. -/
end Go.AV
namespace Go.AV
open Nat renaming reduceEqDiff → J, reduceAdd → E, reduceLeDiff → U, reduceLT → Z, reduceMul → V, reduceSub → Y
open List renaming set_cons_zero → aw, set_cons_succ → au
/-plain-/
/-! Models of mappers. On mapTh, shapesTh, keyTh. -/
abbrev SS := List Int × List Int
def ss0 : SS := ([], [])
/-! A set's number. -/
def dm : List SS → List Int → Nat
  | [], _ => 0
  | s :: S, x => if s.1 = x then 0 else dm S x + 1
def esG : Nat → List SS → List (KV × Int)
  | _, [] => []
  | i, s :: S => (KV.str (eS s.1), (i : Int)) :: esG (i + 1) S
def esS (S : List SS) : List (KV × Int) := esG 0 S
theorem qh (s : SS) : ∀ (S : List SS) (i : Nat), esG i (S ++ [s]) = esG i S ++ [(KV.str (eS s.1), ((i + S.length : Nat) : Int))]
  | [], i => by simp [esG]
  | t :: S, i => by
    show _ :: esG (i + 1) (S ++ [s]) = _
    rw [qh s S (i + 1)]
    simp only [esG, List.cons_append, List.length_cons]
    rw [show i + 1 + S.length = i + (S.length + 1) by omega]
theorem mR {x : List Int} (hx : KB x) : ∀ (S : List SS) (i : Nat), (∀ s ∈ S, KB s.1) → d5 (esG i S) (.str (eS x)) = if dm S x < S.length then some ((i + dm S x : Nat) : Int) else none
  | [], i, _ => rfl
  | s :: S, i, h => by
    by_cases e : s.1 = x
    · have p1 : dm (s :: S) x = 0 := if_pos e
      rw [p1, if_pos (by simp)]
      simp only [esG, d5]
      rw [if_pos (by rw [e])]; rfl
    · have p1 : dm (s :: S) x = dm S x + 1 := if_neg e
      rw [p1]
      simp only [esG, d5]
      rw [if_neg (fun k => e (oo (h s (List.mem_cons_self ..)) hx (KV.str.inj k))), mR hx S (i + 1) fun t ht => h t (List.mem_cons_of_mem _ ht)]
      by_cases e2 : dm S x < S.length
      · rw [if_pos e2, if_pos (by simp; omega)]
        exact congrArg (fun z : Nat => some (z : Int)) (by omega)
      · rw [if_neg e2, if_neg (by simp; omega)]
def sgK (S : List SS) (x : List Int) : Int := if dm S x < S.length then (dm S x : Int) else if S.length = 128 then 0 else (S.length : Int)
def sgB (S : List SS) (x : List Int) : Bool := decide (dm S x < S.length ∨ ¬ S.length = 128)
def sgS (S : List SS) (x w : List Int) : List SS := if dm S x < S.length ∨ S.length = 128 then S else S ++ [(x, w)]
theorem m3 {S : List SS} {x : List Int} (hS : ∀ s ∈ S, KB s.1) (hx : KB x) : (d5 (esS S) (.str (eS x))).isSome = decide (dm S x < S.length) ∧ (d5 (esS S) (.str (eS x))).getD 0 = if dm S x < S.length then (dm S x : Int) else 0 := by
  unfold esS
  rw [mR hx S 0 hS]
  by_cases e : dm S x < S.length
  · rw [if_pos e, if_pos e]; simp [e]
  · rw [if_neg e, if_neg e]; simp [e]
theorem iV {S : List SS} {x w : List Int} (hS : ∀ s ∈ S, KB s.1) (hx : KB x) (h : ¬ dm S x < S.length) : fg (esS S) (.str (eS x)) (S.length : Int) = esS (S ++ [(x, w)]) := by
  unfold fg
  rw [(m3 hS hx).1, if_neg (by simpa using h)]
  unfold esS
  rw [qh]; simp
theorem gM {S : List SS} {x w : List Int} (h : dm S x < S.length) : sgK S x = (dm S x : Int) ∧ sgB S x = true ∧ sgS S x w = S := ⟨if_pos h, by simp [sgB, h], if_pos (.inl h)⟩
theorem gB {S : List SS} {x w : List Int} (h : ¬ dm S x < S.length) (h2 : S.length = 128) : sgK S x = 0 ∧ sgB S x = false ∧ sgS S x w = S := ⟨by unfold sgK; rw [if_neg h, if_pos h2], by unfold sgB; rw [decide_eq_false_iff_not]; omega, if_pos (.inr h2)⟩
theorem gZ {S : List SS} {x w : List Int} (h : ¬ dm S x < S.length) (h2 : ¬ S.length = 128) : sgK S x = (S.length : Int) ∧ sgB S x = true ∧ sgS S x w = S ++ [(x, w)] := ⟨by unfold sgK; rw [if_neg h, if_neg h2], by unfold sgB; rw [decide_eq_true_eq]; exact .inr h2, if_neg (by omega)⟩
theorem vT {S : List SS} {x w : List Int} (h : S.length ≤ 128) : (sgS S x w).length ≤ 128 := by
  unfold sgS
  split
  · exact h
  · rw [List.length_append]; simp; omega
theorem ni {S : List SS} {x w : List Int} {s : SS} (h : s ∈ sgS S x w) : s ∈ S ∨ s = (x, w) := by
  unfold sgS at h
  split at h
  · exact .inl h
  · simpa using h
/-! What a set of pairs does on an abstract symbol. -/
def pP (p : Mpr) (q : Nat) (a : Int) (c : Nat) : Bool := decide ((p.sy.getD q []).getD c 0 = a)
def cK (p : Mpr) (q : Nat) (a : Int) (i : Nat) : List Nat := (List.range i).filter (pP p q a)
theorem oT {p : Mpr} {q : Nat} {a : Int} {c : Nat} (h : (p.sy.getD q []).getD c 0 = a) : cK p q a (c + 1) = cK p q a c ++ [c] := by
  unfold cK
  rw [List.range_succ, List.filter_append, List.filter_cons_of_pos (by simpa [pP] using h), List.filter_nil]
theorem rA {p : Mpr} {q : Nat} {a : Int} {c : Nat} (h : ¬ (p.sy.getD q []).getD c 0 = a) : cK p q a (c + 1) = cK p q a c := by
  unfold cK
  rw [List.range_succ, List.filter_append, List.filter_cons_of_neg (by simpa [pP] using h), List.filter_nil, List.append_nil]
theorem oR (p : Mpr) (q : Nat) (a : Int) (i : Nat) : (cK p q a i).length ≤ i := by
  unfold cK
  exact Nat.le_trans (List.length_filter_le _ _) (by simp)
def qxN (m : Mly) (x : Int) : Nat := x.toNat / m.nx.length
def sxN (m : Mly) (x : Int) : Nat := x.toNat % m.nx.length
def oC (m : Mly) (x : Int) (c : Nat) : Int := 1 + (m.ot.getD (sxN m x) []).getD c 0
def nC (m : Mly) (p : Mpr) (x : Int) (c : Nat) : Int := (p.nx.getD (qxN m x) []).getD c 0 * (m.nx.length : Int) + (m.nx.getD (sxN m x) []).getD c 0
def oK (m : Mly) (p : Mpr) (x a : Int) (i : Nat) : List Int := (cK p (qxN m x) a i).map (oC m x)
def nK (m : Mly) (p : Mpr) (x a : Int) (i : Nat) : List Int := (cK p (qxN m x) a i).map (nC m p x)
def oK1 (m : Mly) (p : Mpr) (x a : Int) : List Int := if cK p (qxN m x) a p.inp.toNat = [] then [0] else oK m p x a p.inp.toNat
def oA (m : Mly) (p : Mpr) (xs : List Int) (a : Int) : List Int := xs.flatMap fun x => oK1 m p x a
def nA (m : Mly) (p : Mpr) (xs : List Int) (a : Int) : List Int := xs.flatMap fun x => nK m p x a p.inp.toNat
def aO (m : Mly) (p : Mpr) (xs : List Int) (a : Int) : List Int := j4 (oA m p xs a)
def aN (m : Mly) (p : Mpr) (xs : List Int) (a : Int) : List Int := j4 (if nA m p xs a = [] then xs else nA m p xs a)
theorem uv (m : Mly) (p : Mpr) (x a : Int) : oK m p x a 0 = [] := rfl
theorem vG (m : Mly) (p : Mpr) (x a : Int) : nK m p x a 0 = [] := rfl
theorem tk {m : Mly} {p : Mpr} {x a : Int} {c : Nat} (h : (p.sy.getD (qxN m x) []).getD c 0 = a) : oK m p x a (c + 1) = oK m p x a c ++ [oC m x c] := by
  unfold oK; rw [oT h, List.map_append]; rfl
theorem sM {m : Mly} {p : Mpr} {x a : Int} {c : Nat} (h : (p.sy.getD (qxN m x) []).getD c 0 = a) : nK m p x a (c + 1) = nK m p x a c ++ [nC m p x c] := by
  unfold nK; rw [oT h, List.map_append]; rfl
theorem oY {m : Mly} {p : Mpr} {x a : Int} {c : Nat} (h : ¬ (p.sy.getD (qxN m x) []).getD c 0 = a) : oK m p x a (c + 1) = oK m p x a c ∧ nK m p x a (c + 1) = nK m p x a c := by
  unfold oK nK; rw [rA h]; exact ⟨rfl, rfl⟩
theorem qC {f : Int → List Int} {xs : List Int} {k : Nat} (h : k < xs.length) : (xs.take (k + 1)).flatMap f = (xs.take k).flatMap f ++ f (xs.getD k 0) := by
  rw [l8 0 h, List.flatMap_append, List.flatMap_singleton]
theorem qz {m : Mly} {p : Mpr} {xs : List Int} {a : Int} {k : Nat} (h : k < xs.length) : oA m p (xs.take (k + 1)) a = oA m p (xs.take k) a ++ oK1 m p (xs.getD k 0) a := qC h
theorem jv {m : Mly} {p : Mpr} {xs : List Int} {a : Int} {k : Nat} (h : k < xs.length) : nA m p (xs.take (k + 1)) a = nA m p (xs.take k) a ++ nK m p (xs.getD k 0) a p.inp.toNat := qC h
theorem qr {m : Mly} {p : Mpr} (hp : p.inp ≤ 64) (x a : Int) : (oK1 m p x a).length ≤ 64 ∧ 1 ≤ (oK1 m p x a).length := by
  unfold oK1
  split
  · simp
  · rename_i h
    have := oR p (qxN m x) a p.inp.toNat
    have h2 : (cK p (qxN m x) a p.inp.toNat).length ≠ 0 := fun e => h (List.eq_nil_of_length_eq_zero e)
    simp only [oK, List.length_map]
    omega
theorem pt {m : Mly} {p : Mpr} (x a : Int) (i : Nat) : (oK m p x a i).length ≤ i ∧ (nK m p x a i).length ≤ i := by
  unfold oK nK
  rw [List.length_map, List.length_map]
  exact ⟨oR .., oR ..⟩
theorem pz {f : Int → List Int} (h : ∀ x, (f x).length ≤ 64) : ∀ xs : List Int, (xs.flatMap f).length ≤ 64 * xs.length
  | [] => by simp
  | x :: xs => by
    rw [List.flatMap_cons, List.length_append, List.length_cons]
    have := pz h xs; have := h x; omega
theorem sT {m : Mly} {p : Mpr} (hp : p.inp ≤ 64) (xs : List Int) (a : Int) : (oA m p xs a).length ≤ 64 * xs.length ∧ (nA m p xs a).length ≤ 64 * xs.length :=
  ⟨pz (fun x => (qr hp x a).1) xs, pz (fun x => by have := (pt (m := m) (p := p) x a p.inp.toNat).2; omega) xs⟩
theorem tu {m : Mly} {p : Mpr} (hp : p.inp ≤ 64) {xs : List Int} (h : 0 < xs.length) (a : Int) : 0 < (oA m p xs a).length := by
  match xs, h with
  | x :: xs, _ =>
    show 0 < ((x :: xs).flatMap fun x => oK1 m p x a).length
    rw [List.flatMap_cons, List.length_append]
    have := (qr (m := m) hp x a).2; omega
/-! Sets. -/
structure SB (m : Mly) (p : Mpr) (xs : List Int) : Prop where
  ord : xs.Pairwise (· < ·)
  pos : 0 < xs.length
  rng : ∀ x ∈ xs, 0 ≤ x ∧ x < p.nx.length * m.nx.length
theorem lI {m : Mly} {p : Mpr} (hm : MOK m) (hp : POK p) (hi : m.inp = p.inp) {x : Int} (hx : 0 ≤ x ∧ x < p.nx.length * m.nx.length) {c : Nat} (hc : (c : Int) < p.inp) :
    (qxN m x < p.nx.length ∧ sxN m x < m.nx.length) ∧ (0 ≤ (p.nx.getD (qxN m x) []).getD c 0 * (m.nx.length : Int) ∧ (p.nx.getD (qxN m x) []).getD c 0 * (m.nx.length : Int) ≤ 16384) ∧ 0 ≤ nC m p x c ∧ nC m p x c < p.nx.length * m.nx.length := by
  have hn := hm.n1
  have h1 : qxN m x < p.nx.length := by
    unfold qxN
    rw [Nat.div_lt_iff_lt_mul hn]
    have : ((x.toNat : Nat) : Int) < ((p.nx.length * m.nx.length : Nat) : Int) := by push_cast; omega
    omega
  have h2 : sxN m x < m.nx.length := Nat.mod_lt _ hn
  have h3 := hp.cl _ c h1 hc
  have h4 := hm.nr _ c h2 (by omega)
  have h5 : (p.nx.getD (qxN m x) []).getD c 0 * (m.nx.length : Int) ≤ (p.nx.length - 1 : Int) * m.nx.length := Int.mul_le_mul_of_nonneg_right (by omega) (by omega)
  have h6 : 0 ≤ (p.nx.getD (qxN m x) []).getD c 0 * (m.nx.length : Int) := Int.mul_nonneg h3.1 (by omega)
  have h7 : (p.nx.length - 1 : Int) * m.nx.length = p.nx.length * m.nx.length - m.nx.length := by rw [Int.sub_mul, Int.one_mul]
  have h8 : (p.nx.length : Int) * m.nx.length ≤ 128 * 128 := Int.mul_le_mul (by have := hp.n2; omega) (by have := hm.n2; omega) (by omega) (by omega)
  refine ⟨⟨h1, h2⟩, ⟨h6, by omega⟩, ?_⟩
  unfold nC
  omega
theorem SB.kb {m : Mly} {p : Mpr} {xs : List Int} (h : SB m p xs) (hm : MOK m) (hp : POK p) : KB xs := fun x hx => by
  have := h.rng x hx
  have h8 : (p.nx.length : Int) * m.nx.length ≤ 128 * 128 := Int.mul_le_mul (by have := hp.n2; omega) (by have := hm.n2; omega) (by omega) (by omega)
  omega
theorem kS : ∀ {xs : List Int} {a b : Int}, xs.Pairwise (· < ·) → (∀ x ∈ xs, a ≤ x ∧ x < b) → (xs.length : Int) ≤ b - a ∨ xs = []
  | [], _, _, _, _ => .inr rfl
  | x :: xs, a, b, h, hr => .inl (by
    obtain ⟨h1, h2⟩ := List.pairwise_cons.1 h
    have hx := hr x (List.mem_cons_self ..)
    rcases kS (a := x + 1) (b := b) h2 (fun y hy => ⟨by have := h1 y hy; omega, (hr y (List.mem_cons_of_mem _ hy)).2⟩) with e | e
    · simp only [List.length_cons]; omega
    · rw [e]; simp only [List.length_cons, List.length_nil]; omega)
theorem SB.len {m : Mly} {p : Mpr} {xs : List Int} (h : SB m p xs) (hm : MOK m) (hp : POK p) : xs.length ≤ 16384 := by
  have h8 : (p.nx.length : Int) * m.nx.length ≤ 128 * 128 := Int.mul_le_mul (by have := hp.n2; omega) (by have := hm.n2; omega) (by omega) (by omega)
  rcases kS h.ord h.rng with e | e
  · omega
  · rw [e]; simp
theorem vY {m : Mly} {p : Mpr} {xs : List Int} (h : SB m p xs) (hm : MOK m) (hp : POK p) (hi : m.inp = p.inp) (a : Int) : SB m p (aN m p xs a) := by
  unfold aN
  have hr : ∀ y ∈ (if nA m p xs a = [] then xs else nA m p xs a), 0 ≤ y ∧ y < p.nx.length * m.nx.length := by
    intro y hy
    split at hy
    · exact h.rng y hy
    · unfold nA at hy
      obtain ⟨x, hx, hy⟩ := List.mem_flatMap.1 hy
      unfold nK at hy
      obtain ⟨c, hc, rfl⟩ := List.mem_map.1 hy
      unfold cK at hc
      have hc2 := List.mem_range.1 (List.mem_filter.1 hc).1
      exact (lI hm hp hi (h.rng x hx) (c := c) (by omega)).2.2
  have hne : (if nA m p xs a = [] then xs else nA m p xs a) ≠ [] := by
    split
    · intro e; have := h.pos; rw [e] at this; simp at this
    · assumption
  refine ⟨(cW _).1, ?_, fun x hx => hr x (((cW _).2 x).1 hx)⟩
  rcases hu : j4 (if nA m p xs a = [] then xs else nA m p xs a) with _ | ⟨y, l⟩
  · exfalso
    obtain ⟨y, l, e⟩ := List.exists_cons_of_ne_nil hne
    have := ((cW _).2 y).2 (show y ∈ (if nA m p xs a = [] then xs else nA m p xs a) by rw [e]; exact List.mem_cons_self ..)
    rw [hu] at this; cases this
  · simp
theorem sh {xs : List Int} (h : 0 < xs.length) : 0 < (j4 xs).length := by
  match xs, h with
  | x :: xs, _ => exact List.length_pos_of_mem (((cW (x :: xs)).2 x).2 (List.mem_cons_self ..))
def eQ (s : SS) : List Int × (List Int × Unit) := (s.1, (s.2, ()))
theorem wy {m : Mly} {x : Int} (h : 0 ≤ x) : x.tdiv (m.nx.length : Int) = (qxN m x : Int) ∧ x.tmod (m.nx.length : Int) = (sxN m x : Int) := by
  obtain ⟨y, rfl⟩ := Int.eq_ofNat_of_zero_le h
  exact ⟨rfl, rfl⟩
theorem wO {m : Mly} {p : Mpr} {xs : List Int} {a : Int} {k : Nat} (h : k < xs.length) (e : cK p (qxN m (xs.getD k 0)) a p.inp.toNat = []) : oA m p (xs.take (k + 1)) a = oA m p (xs.take k) a ++ oK m p (xs.getD k 0) a p.inp.toNat ++ [0] := by
  rw [qz h]; unfold oK1 oK
  rw [if_pos e, e]; simp
theorem wM {m : Mly} {p : Mpr} {xs : List Int} {a : Int} {k : Nat} (h : k < xs.length) (e : ¬ cK p (qxN m (xs.getD k 0)) a p.inp.toNat = []) : oA m p (xs.take (k + 1)) a = oA m p (xs.take k) a ++ oK m p (xs.getD k 0) a p.inp.toNat := by
  rw [qz h]; unfold oK1
  rw [if_neg e]
theorem vX {p : Mpr} {q : Nat} {a : Int} {c : Nat} (h : (p.sy.getD q []).getD c 0 = a) : (cK p q a (c + 1)).isEmpty = false := by rw [oT h]; simp
theorem xn {m : Mly} {p : Mpr} {xs : List Int} {a : Int} (h : (nA m p xs a).length = 0) : aN m p xs a = Lib.compact (eC xs) := by
  unfold aN; rw [if_pos (List.eq_nil_of_length_eq_zero h)]; rfl
theorem xr {m : Mly} {p : Mpr} {xs : List Int} {a : Int} (h : ¬ (nA m p xs a).length = 0) : aN m p xs a = Lib.compact (eC (nA m p xs a)) := by
  unfold aN; rw [if_neg (fun e => h (by rw [e]; rfl))]; rfl
/-! The model. -/
structure Mres where
  my : Mly
  w : List Int
  a : Int
  b : Int
  f : Bool
  e : Int
def p7 : Mly := ⟨0, 0, [], []⟩
def jC (e : Int) : Mres := ⟨p7, [], 0, 0, false, e⟩
structure MS where
  S : List SS
  N : List (List Int)
  O : List (List Int)
  nr : List Int
  os : List Int
def cwM (s : MS) (i : Nat) (a : Nat) : List Int := (s.S.getD i ss0).2 ++ [(a : Int)]
def cxM (s : MS) (i : Nat) : List Int := (s.S.getD i ss0).1
def uI (m : Mly) (p : Mpr) (i : Nat) (s : MS) (a : Nat) : MS :=
  { S := sgS s.S (aN m p (cxM s i) a) (cwM s i a), N := s.N, O := s.O, nr := s.nr ++ [sgK s.S (aN m p (cxM s i) a)], os := s.os ++ [(aO m p (cxM s i) a).getD 0 0] }
def cX (m : Mly) (p : Mpr) (i : Nat) (s : MS) (a : Nat) : Option Mres :=
  if 1 < (aO m p (cxM s i) a).length then some ⟨p7, cwM s i a, (aO m p (cxM s i) a).getD 0 0, (aO m p (cxM s i) a).getD 1 0, false, 0⟩
  else if 1048576 < (aO m p (cxM s i) a).getD 0 0 then some (jC 2)
  else if sgB s.S (aN m p (cxM s i) a) = false then some (jC 11) else none
def bG (m : Mly) (p : Mpr) : Nat → MS
  | 0 => ⟨[([p.st * (m.nx.length : Int) + m.st], [])], [], [], [], []⟩
  | i + 1 => let s := (List.range p.ab.toNat).foldl (uI m p i) (bG m p i); ⟨s.S, s.N ++ [s.nr], s.O ++ [s.os], [], []⟩
def bW (m : Mly) (p : Mpr) (i a : Nat) : MS := (List.range a).foldl (uI m p i) (bG m p i)
theorem rE (m : Mly) (p : Mpr) (i : Nat) : bW m p i 0 = bG m p i := rfl
theorem dN (m : Mly) (p : Mpr) (i a : Nat) : bW m p i (a + 1) = uI m p i (bW m p i a) a := by
  unfold bW; rw [List.range_succ, List.foldl_append]; rfl
theorem fH (m : Mly) (p : Mpr) (i : Nat) : bG m p (i + 1) = ⟨(bW m p i p.ab.toNat).S, (bW m p i p.ab.toNat).N ++ [(bW m p i p.ab.toNat).nr], (bW m p i p.ab.toNat).O ++ [(bW m p i p.ab.toNat).os], [], []⟩ := rfl
def g8 (p : Mpr) (s : MS) : Mres := ⟨⟨p.ab, 0, s.N, s.O⟩, [], 0, 0, true, 0⟩
def goM (m : Mly) (p : Mpr) : Nat → Nat → Mres
  | 0, i => g8 p (bG m p i)
  | f + 1, i => if i < (bG m p i).S.length then match (List.range p.ab.toNat).findSome? (fun a => cX m p i (bW m p i a) a) with
      | some r => r
      | none => goM m p f (i + 1) else g8 p (bG m p i)
def gF (m : Mly) (p : Mpr) : Int := if ¬ bj m = 0 then bj m else if ¬ cP p = 0 then cP p else if ¬ m.inp = p.inp then 15 else 0
def mdl (m : Mly) (p : Mpr) : Mres := if gF m p = 0 then goM m p 129 0 else jC (gF m p)
def RIM (m : Mly) (p : Mpr) (i : Nat) : Prop := ∀ j, j < i → j < (bG m p j).S.length ∧ ∀ a, a < p.ab.toNat → cX m p j (bW m p j a) a = none
theorem ld {f : Nat → Option Mres} {n : Nat} (h : ∀ a, a < n → f a = none) : (List.range n).findSome? f = none := by
  rw [List.findSome?_eq_none_iff]
  intro a ha; exact h a (List.mem_range.1 ha)
theorem pJ {f : Nat → Option Mres} {n a : Nat} {r : Mres} (hn : a < n) (h : ∀ b, b < a → f b = none) (h2 : f a = some r) : (List.range n).findSome? f = some r := by
  have e : List.range n = List.range a ++ (List.range (n - a)).map (a + ·) := by rw [← List.range_add]; congr 1; omega
  rw [e, List.findSome?_append, ld h]
  rw [show n - a = (n - a - 1) + 1 by omega, List.range_succ_eq_map]
  simp [h2]
theorem kB {m : Mly} {p : Mpr} : ∀ {i : Nat}, i ≤ 129 → RIM m p i → goM m p 129 0 = goM m p (129 - i) i
  | 0, _, _ => rfl
  | i + 1, hi, h => by
    rw [kB (i := i) (by omega) fun j hj => h j (by omega)]
    obtain ⟨h1, h2⟩ := h i (by omega)
    rw [show 129 - i = (129 - (i + 1)) + 1 by omega]
    show (if _ then _ else _) = _
    rw [if_pos h1, ld h2]
theorem vH {m : Mly} {p : Mpr} {i : Nat} (hi : i ≤ 128) (h : RIM m p i) (h2 : ¬ i < (bG m p i).S.length) : goM m p 129 0 = g8 p (bG m p i) := by
  rw [kB (by omega) h, show 129 - i = (128 - i) + 1 by omega]
  show (if _ then _ else _) = _
  rw [if_neg h2]
theorem kh {m : Mly} {p : Mpr} {i a : Nat} {r : Mres} (hi : i ≤ 128) (h : RIM m p i) (h2 : i < (bG m p i).S.length) (ha : a < p.ab.toNat) (h3 : ∀ b, b < a → cX m p i (bW m p i b) b = none) (h4 : cX m p i (bW m p i a) a = some r) : goM m p 129 0 = r := by
  rw [kB (by omega) h, show 129 - i = (128 - i) + 1 by omega]
  show (if _ then _ else _) = _
  rw [if_pos h2, pJ ha h3 h4]
theorem kK {m : Mly} {p : Mpr} {i : Nat} (h : RIM m p i) (h2 : i < (bG m p i).S.length) (h3 : ∀ b, b < p.ab.toNat → cX m p i (bW m p i b) b = none) : RIM m p (i + 1) := fun j hj => by
  by_cases e : j = i
  · rw [e]; exact ⟨h2, h3⟩
  · exact h j (by omega)
/-- What holds of the sets. -/
structure SVM (m : Mly) (p : Mpr) (k : Nat) (S : List SS) : Prop where
  sb : ∀ s ∈ S, SB m p s.1
  wl : ∀ s ∈ S, s.2.length ≤ k
  le : S.length ≤ 128
theorem kg {m : Mly} {p : Mpr} (hm : MOK m) (hp : POK p) : SB m p [p.st * (m.nx.length : Int) + m.st] := by
  have h1 := hp.s1; have h2 := hp.s2; have h3 := hm.s1; have h4 := hm.s2
  have h5 : p.st * (m.nx.length : Int) ≤ (p.nx.length - 1 : Int) * m.nx.length := Int.mul_le_mul_of_nonneg_right (by omega) (by omega)
  have h6 : 0 ≤ p.st * (m.nx.length : Int) := Int.mul_nonneg h1 (by omega)
  have h7 : (p.nx.length - 1 : Int) * m.nx.length = p.nx.length * m.nx.length - m.nx.length := by rw [Int.sub_mul, Int.one_mul]
  refine ⟨by simp, by simp, fun x hx => ?_⟩
  rw [List.mem_singleton] at hx
  rw [hx]; omega
theorem SVM.at_ {m : Mly} {p : Mpr} {k i : Nat} {S : List SS} (h : SVM m p k S) (hi : i < S.length) : SB m p (S.getD i ss0).1 ∧ (S.getD i ss0).2.length ≤ k := by
  have : S.getD i ss0 ∈ S := by simp [List.getD, hi]
  exact ⟨h.sb _ this, h.wl _ this⟩
theorem SVM.kb {m : Mly} {p : Mpr} {k : Nat} {S : List SS} (h : SVM m p k S) (hm : MOK m) (hp : POK p) : ∀ s ∈ S, KB s.1 := fun s hs => (h.sb s hs).kb hm hp
theorem t5 (S : List SS) (x w : List Int) : S.length ≤ (sgS S x w).length := by
  unfold sgS
  split
  · exact Nat.le_refl _
  · simp
theorem fl {m : Mly} {p : Mpr} {i : Nat} : ∀ a, (bG m p i).S.length ≤ (bW m p i a).S.length
  | 0 => Nat.le_refl _
  | a + 1 => by rw [dN]; exact Nat.le_trans (fl a) (t5 _ _ _)
theorem pf {S : List SS} {x w : List Int} {i : Nat} (h : i < S.length) : (sgS S x w).getD i ss0 = S.getD i ss0 := by
  unfold sgS
  split
  · rfl
  · simp [List.getD, List.getElem?_append_left h]
/-- Up to a column. -/
theorem ia {m : Mly} {p : Mpr} (hm : MOK m) (hp : POK p) (hi : m.inp = p.inp) {i : Nat} (h0 : SVM m p i (bG m p i).S) (h1 : i < (bG m p i).S.length) : ∀ a, SVM m p (i + 1) (bW m p i a).S ∧ (bW m p i a).S.getD i ss0 = (bG m p i).S.getD i ss0
  | 0 => ⟨⟨h0.sb, fun s hs => by have := h0.wl s hs; omega, h0.le⟩, rfl⟩
  | a + 1 => by
    obtain ⟨h2, h3⟩ := ia hm hp hi h0 h1 a
    have h4 := fl (m := m) (p := p) (i := i) a
    rw [dN]
    refine ⟨⟨fun s hs => ?_, fun s hs => ?_, vT h2.le⟩, (pf (by omega)).trans h3⟩
    · rcases ni hs with h | h
      · exact h2.sb s h
      · rw [h]; exact vY (h2.at_ (by omega)).1 hm hp hi _
    · rcases ni hs with h | h
      · exact h2.wl s h
      · rw [h]
        show (((bW m p i a).S.getD i ss0).2 ++ [(a : Int)]).length ≤ _
        rw [List.length_append, h3]; have := (h0.at_ h1).2; simp only [List.length_cons, List.length_nil]; omega
theorem f9 {m : Mly} {p : Mpr} (hm : MOK m) (hp : POK p) (hi : m.inp = p.inp) : ∀ {i : Nat}, RIM m p i → SVM m p i (bG m p i).S
  | 0, _ => ⟨fun s hs => by
      have : s = ([p.st * (m.nx.length : Int) + m.st], []) := List.mem_singleton.1 hs
      rw [this]; exact kg hm hp, fun s hs => by
      have : s = ([p.st * (m.nx.length : Int) + m.st], []) := List.mem_singleton.1 hs
      rw [this]; exact Nat.le_refl _, by show 1 ≤ 128; omega⟩
  | i + 1, h => by
    rw [fH]
    exact (ia hm hp hi (f9 hm hp hi fun j hj => h j (by omega)) (h i (by omega)).1 _).1
theorem iO {m : Mly} {p : Mpr} (hm : MOK m) (hp : POK p) (hi : m.inp = p.inp) {i : Nat} (h : RIM m p i) : i ≤ 128 := by
  match i, h with
  | 0, _ => omega
  | i + 1, h =>
    have h1 := h i (by omega)
    have := (f9 (i := i) hm hp hi fun j hj => h j (by omega)).le
    omega
/-! How long the rows are. -/
theorem gD {m : Mly} {p : Mpr} {i : Nat} : ∀ a, (bW m p i a).N = (bG m p i).N ∧ (bW m p i a).O = (bG m p i).O ∧ (bW m p i a).nr.length = (bG m p i).nr.length + a ∧ (bW m p i a).os.length = (bG m p i).os.length + a
  | 0 => ⟨rfl, rfl, rfl, rfl⟩
  | a + 1 => by
    obtain ⟨h1, h2, h3, h4⟩ := gD (i := i) a
    rw [dN]
    refine ⟨h1, h2, ?_, ?_⟩
    · show (_ ++ [_]).length = _
      rw [List.length_append, h3]; simp; omega
    · show (_ ++ [_]).length = _
      rw [List.length_append, h4]; simp; omega
theorem eL (m : Mly) (p : Mpr) : ∀ i, (bG m p i).nr = [] ∧ (bG m p i).os = [] ∧ (bG m p i).N.length = i ∧ (bG m p i).O.length = i
  | 0 => ⟨rfl, rfl, rfl, rfl⟩
  | i + 1 => by
    obtain ⟨_, _, h3, h4⟩ := eL m p i
    obtain ⟨h1, h2, _, _⟩ := gD (m := m) (p := p) (i := i) p.ab.toNat
    rw [fH]
    refine ⟨rfl, rfl, ?_, ?_⟩
    · show (_ ++ [_]).length = _
      rw [List.length_append, h1, h3]; rfl
    · show (_ ++ [_]).length = _
      rw [List.length_append, h2, h4]; rfl
def Mres.av (r : Mres) : AV := .tup [r.my.av, .agg [.list (.int .i64) r.w, .int .i64 r.a, .int .i64 r.b], .one (.bool r.f), .one (.int .i64 r.e)]
theorem x1 {m : Mly} {p : Mpr} (h : ¬ bj m = 0) : mdl m p = jC (bj m) := by
  have e : gF m p = bj m := if_pos h
  unfold mdl; rw [e, if_neg h]
theorem x4 {m : Mly} {p : Mpr} (h0 : bj m = 0) (h : ¬ cP p = 0) : mdl m p = jC (cP p) := by
  have e : gF m p = cP p := by unfold gF; rw [if_neg (fun k => k h0), if_pos h]
  unfold mdl; rw [e, if_neg h]
theorem x9 {m : Mly} {p : Mpr} (h0 : bj m = 0) (h1 : cP p = 0) (h : ¬ m.inp = p.inp) : mdl m p = jC 15 := by
  have e : gF m p = 15 := by unfold gF; rw [if_neg (fun k => k h0), if_neg (fun k => k h1), if_pos h]
  unfold mdl; rw [e, if_neg (by decide)]
theorem lJ {m : Mly} {p : Mpr} (h0 : bj m = 0) (h1 : cP p = 0) (h : m.inp = p.inp) : mdl m p = goM m p 129 0 := by
  have e : gF m p = 0 := by unfold gF; rw [if_neg (fun k => k h0), if_neg (fun k => k h1), if_neg (fun k => k h)]
  unfold mdl; rw [if_pos e]
theorem wA {m : Mly} {p : Mpr} {i a : Nat} {s : MS} (h : 1 < (aO m p (cxM s i) a).length) : cX m p i s a = some ⟨p7, cwM s i a, (aO m p (cxM s i) a).getD 0 0, (aO m p (cxM s i) a).getD 1 0, false, 0⟩ := if_pos h
theorem w8 {m : Mly} {p : Mpr} {i a : Nat} {s : MS} (h0 : ¬ 1 < (aO m p (cxM s i) a).length) (h : 1048576 < (aO m p (cxM s i) a).getD 0 0) : cX m p i s a = some (jC 2) := by
  unfold cX; rw [if_neg h0, if_pos h]
theorem wh {m : Mly} {p : Mpr} {i a : Nat} {s : MS} (h0 : ¬ 1 < (aO m p (cxM s i) a).length) (h1 : ¬ 1048576 < (aO m p (cxM s i) a).getD 0 0) (h : sgB s.S (aN m p (cxM s i) a) = false) : cX m p i s a = some (jC 11) := by
  unfold cX; rw [if_neg h0, if_neg h1, if_pos h]
theorem uX {m : Mly} {p : Mpr} {i a : Nat} {s : MS} (h0 : ¬ 1 < (aO m p (cxM s i) a).length) (h1 : ¬ 1048576 < (aO m p (cxM s i) a).getD 0 0) (h : sgB s.S (aN m p (cxM s i) a) = true) : cX m p i s a = none := by
  unfold cX; rw [if_neg h0, if_neg h1, if_neg (by rw [h]; decide)]
theorem sj {m : Mly} {p : Mpr} {i a : Nat} (h : ∀ b, b < a → cX m p i (bW m p i b) b = none) (h2 : cX m p i (bW m p i a) a = none) : ∀ b, b < a + 1 → cX m p i (bW m p i b) b = none := fun b hb => by
  by_cases e : b = a
  · rw [e]; exact h2
  · exact h b (by omega)
theorem tq {m : Mly} {p : Mpr} (hp : POK p) {xs : List Int} (h : 0 < xs.length) (a : Int) : 0 < (aO m p xs a).length := sh (tu hp.i2 h a)
theorem wa {S : List SS} {k : Nat} (h : k < S.length) (d : List Int × (List Int × Unit)) : (List.map eQ S).getD k d = ((S.getD k ss0).1, ((S.getD k ss0).2, ())) := by
  simp [List.getD, h, eQ]
theorem w9 {m : Mly} {p : Mpr} (hm : MOK m) (hp : POK p) : 0 ≤ p.st * (m.nx.length : Int) ∧ p.st * (m.nx.length : Int) ≤ 16384 := by
  have h1 := hp.s1; have h2 := hp.s2
  have h5 : p.st * (m.nx.length : Int) ≤ 128 * 128 := Int.mul_le_mul (by have := hp.n2; omega) (by have := hm.n2; omega) (by omega) (by omega)
  exact ⟨Int.mul_nonneg h1 (by omega), by omega⟩
/-! The reference's sets. -/
theorem vg {l : List Int} (h : ∀ y ∈ l, 0 ≤ y) : ∀ y ∈ j4 l, 0 ≤ y := fun y hy => h y (((cW l).2 y).1 hy)
end Go.AV
namespace Go.Proofs.YtceafldjjedhcaaDoor
open Go Go.AV
open Nat renaming reduceEqDiff → J, reduceAdd → E, reduceLeDiff → U, reduceLT → Z, reduceMul → V, reduceSub → Y
open List renaming set_cons_zero → aw, set_cons_succ → au
open Go.Shelf in
def Tryd.lays189_ren : Go.Shelf.Ren := ⟨fun | 189 => 35 | 125 => 44 | 257 => 43 | 128 => 56 | 129 => 57 | 294 => 47 | 295 => 48 | 296 => 49 | 297 => 50 | 298 => 51 | 299 => 52 | 216 => 53 | 300 => 54 | 301 => 55 | 328 => 60 | 329 => 61 | 330 => 62 | 331 => 63 | 332 => 64 | 215 => 65 | 343 => 70 | n => n, fun | 28 => 25 | 3 => 3 | 46 => 99 | 0 => 0 | 51 => 109 | 53 => 111 | 4 => 4 | 183 => 103 | 182 => 102 | 131 => 64 | 5 => 5 | 9 => 9 | 218 => 114 | 222 => 118 | 228 => 128 | 229 => 129 | n => n, fun | n => n⟩
theorem Tryd.lays189 : Go.Proofs.Lays.n189 Tryd.prog Tryd.lays189_ren := {
  mixed := by kernel_rfl,
  f125 := Tryd.func44.trans (congrArg some (by kernel_rfl)),
  f128 := Tryd.func56.trans (congrArg some (by kernel_rfl)),
  f129 := Tryd.func57.trans (congrArg some (by kernel_rfl)),
  f189 := Tryd.func35.trans (congrArg some (by kernel_rfl)),
  f215 := Tryd.func65.trans (congrArg some (by kernel_rfl)),
  f216 := Tryd.func53.trans (congrArg some (by kernel_rfl)),
  f257 := Tryd.func43.trans (congrArg some (by kernel_rfl)),
  f294 := Tryd.func47.trans (congrArg some (by kernel_rfl)),
  f295 := Tryd.func48.trans (congrArg some (by kernel_rfl)),
  f296 := Tryd.func49.trans (congrArg some (by kernel_rfl)),
  f297 := Tryd.func50.trans (congrArg some (by kernel_rfl)),
  f298 := Tryd.func51.trans (congrArg some (by kernel_rfl)),
  f299 := Tryd.func52.trans (congrArg some (by kernel_rfl)),
  f300 := Tryd.func54.trans (congrArg some (by kernel_rfl)),
  f301 := Tryd.func55.trans (congrArg some (by kernel_rfl)),
  f328 := Tryd.func60.trans (congrArg some (by kernel_rfl)),
  f329 := Tryd.func61.trans (congrArg some (by kernel_rfl)),
  f330 := Tryd.func62.trans (congrArg some (by kernel_rfl)),
  f331 := Tryd.func63.trans (congrArg some (by kernel_rfl)),
  f332 := Tryd.func64.trans (congrArg some (by kernel_rfl)),
  f343 := Tryd.func70.trans (congrArg some (by kernel_rfl)),
  t0 := Tryd.underlying0,
  a0 := Tryd.isAgg0,
  z0 := Tryd.sizeOf0,
  v0 := Tryd.zeroValue0,
  t3 := Tryd.underlying3,
  a3 := Tryd.isAgg3,
  z3 := Tryd.sizeOf3,
  v3 := Tryd.zeroValue3,
  t4 := Tryd.underlying4,
  a4 := Tryd.isAgg4,
  z4 := Tryd.sizeOf4,
  v4 := Tryd.zeroValue4,
  t5 := Tryd.underlying5,
  a5 := Tryd.isAgg5,
  z5 := Tryd.sizeOf5,
  v5 := Tryd.zeroValue5,
  t9 := Tryd.underlying9,
  a9 := Tryd.isAgg9,
  z9 := Tryd.sizeOf9,
  v9 := Tryd.zeroValue9,
  t28 := Tryd.underlying25,
  a28 := Tryd.isAgg25,
  z28 := Tryd.sizeOf25,
  v28 := Tryd.zeroValue25,
  t46 := Tryd.underlying99,
  a46 := Tryd.isAgg99,
  z46 := Tryd.sizeOf99,
  v46 := Tryd.zeroValue99,
  t51 := Tryd.underlying109,
  a51 := Tryd.isAgg109,
  z51 := Tryd.sizeOf109,
  v51 := Tryd.zeroValue109,
  t53 := Tryd.underlying111,
  a53 := Tryd.isAgg111,
  z53 := Tryd.sizeOf111,
  v53 := Tryd.zeroValue111,
  t131 := Tryd.underlying64,
  a131 := Tryd.isAgg64,
  z131 := Tryd.sizeOf64,
  v131 := Tryd.zeroValue64,
  t182 := Tryd.underlying102,
  a182 := Tryd.isAgg102,
  z182 := Tryd.sizeOf102,
  v182 := Tryd.zeroValue102,
  t183 := Tryd.underlying103,
  a183 := Tryd.isAgg103,
  z183 := Tryd.sizeOf103,
  v183 := Tryd.zeroValue103,
  t218 := Tryd.underlying114,
  a218 := Tryd.isAgg114,
  z218 := Tryd.sizeOf114,
  v218 := Tryd.zeroValue114,
  t222 := Tryd.underlying118,
  a222 := Tryd.isAgg118,
  z222 := Tryd.sizeOf118,
  v222 := Tryd.zeroValue118,
  t228 := Tryd.underlying128,
  a228 := Tryd.isAgg128,
  z228 := Tryd.sizeOf128,
  v228 := Tryd.zeroValue128,
  t229 := Tryd.underlying129,
  a229 := Tryd.isAgg129,
  z229 := Tryd.sizeOf129,
  v229 := Tryd.zeroValue129 }
theorem js : v7 Tryd.prog 35 := ⟨⟨Tryd.f35, Tryd.func35, by kernel_rfl, by kernel_rfl⟩, fun blk off cap zs w hH hb hz => Any.slices_Sort_int Tryd.lays189 blk off cap zs w hH hb hz⟩
end Go.Proofs.YtceafldjjedhcaaDoor
namespace Go.Proofs.YtceafldjjedhcaaDoor
open Go Go.AV
open Nat renaming reduceEqDiff → J, reduceAdd → E, reduceLeDiff → U, reduceLT → Z, reduceMul → V, reduceSub → Y
open List renaming set_cons_zero → aw, set_cons_succ → au
set_option maxRecDepth 100000 in
set_option maxHeartbeats 2000000 in
theorem uq (m : Mly) (p : Mpr) (xs : List Int) (a : Int) (hm : MOK m) (hp : POK p) (hi : m.inp = p.inp) (hs : SB m p xs) (S : List SS) (u : Nat) (N O : List (List Int)) (r : Nat) (nr orr : List Int) : fb Tryd.prog [.vars 24 [.int .i64 m.inp, .int .i64 m.st, .list (.list (.int .i64)) m.nx, .list (.list (.int .i64)) m.ot], .vars 32 [.int .i64 p.inp, .int .i64 p.ab, .int .i64 p.st, .list (.list (.int .i64)) p.nx, .list (.list (.int .i64)) p.sy], .vars 24 [.int .i64 0, .int .i64 0, .nils, .nils], .vars 36 [.nils, .int .i64 0, .int .i64 0], .mp 60 .int (esS S), .vars 63 [.int .i64 m.inp, .int .i64 m.st, .list (.list (.int .i64)) m.nx, .list (.list (.int .i64)) m.ot, .int .i64 p.inp, .int .i64 p.ab, .int .i64 p.st, .list (.list (.int .i64)) p.nx, .list (.list (.int .i64)) p.sy, .row 6 S.length, .mpv 4], .row (.pair (.list (.int .i64)) (.pair (.list (.int .i64)) .unit)) 67 S.length (List.map eQ S), .vars 24 [.int .i64 p.ab, .int .i64 0, .row 8 u, .row 9 u], .row (.list (.int .i64)) 25 u N, .row (.list (.int .i64)) 25 u O, .row (.int .i64) 3 r nr, .row (.int .i64) 3 r orr] 23 [.one (.ptr 5 0 0 0), .one (.list (.int .i64) xs), .one (.int .i64 a)] { av := .tup [.one (.list (.int .i64) (aO m p xs a)), .one (.list (.int .i64) (aN m p xs a))], fp := [0, 1, 2, 3, 4, 5, 6, 7, 8, 9, 10, 11] } := by
 have hxl := hs.len hm hp; have hx0 := hs.pos; have hn1 := hm.n1; have hn2 := hm.n2; have p1 := hp.i1; have p2 := hp.i2; have a7 := hp.sl; have ol := hm.ol; have b1 := hp.n1; have b2 := hp.n2
 refine eV _ _ Tryd.func23 rfl (by kernel_rfl) (Nat.le_of_ble_eq_true rfl) (by intro k hk; simp only [List.length_cons, List.length_nil, Nat.zero_add, E] at hk; simp only [List.mem_cons, List.not_mem_nil, or_false]; omega) (fun C hP hN hB => ?_)
 replace hB : C.bL.length = 12 := by rw [hB]; rfl
 replace hN : C.N = 117 := hN
 simp only [ae, E]
 refine ah fun K1 hK1 => ?_
 refine ao hP hN rfl ?_
 iterate 2 (refine ag rfl fun K0 aa => ?_; simp only [zE, op1, ev, lkp, am, ak, ev, reduceCtorEq, J, E, U, Z, V, Y, Tryd.el25, Tryd.td25, Int.toNat_natCast]; refine aa _ ?_; clear aa K0; simp only [put, app, af, aj, zE, zS, E])
 refine aq ?_
 refine hK1 _ ?_; clear hK1; refine ai [0, 1, 2, 6, 7] ?_; simp only [ad, lkp, zE, reduceCtorEq, J, ae, E]
 refine ah fun K2 hK2 => ?_
 refine ao hP hN rfl ?_
 iterate 7 (refine ag rfl fun K0 aa => ?_; simp only [zE, op1, ev, lkp, am, ak, dK, aA, aE, Nat.mul_one, aC, aD, acs, Ty.dflt, zG, az, aP, bT, bC, bu, bv, bP, Nat.div_one, aV, bz, Ty.size, aM, dite_true, reduceCtorEq, J, E, U, Z, V, Y, Tryd.el22, Tryd.st24, Tryd.st63, Tryd.td2, Tryd.td22, Tryd.td24, Tryd.td3, Tryd.td63, Tryd.td83, Int.toNat_natCast]; (repeat refine And.intro (by first | omega | assumption | exact rfl) ?_); (first | refine aa _ ?_ | refine Or.inl (aa _ ?_)); clear aa K0; simp only [put, app, af, aj, zE, zS, E])
 refine aq ?_
 refine hK2 _ ?_; clear hK2; refine ai [0, 1, 2, 6, 7, 8] ?_; simp only [ad, lkp, zE, reduceCtorEq, J, ae, E]
 refine ah fun K3 hK3 => ?_
 refine ah fun K4 hK4 => ?_
 refine ao hP hN rfl ?_
 iterate 3 (refine ag rfl fun K0 aa => ?_; simp only [zE, op1, ev, lkp, am, ak, aP, bT, bC, bu, bv, bP, Nat.div_one, aV, bz, Ty.size, aM, dite_true, reduceCtorEq, J, E, U, Z, V, Y, Tryd.el25, Tryd.td25, Tryd.td3, Int.toNat_natCast]; (repeat refine And.intro (by first | omega | assumption | exact rfl) ?_); (first | refine aa _ ?_ | refine Or.inl (aa _ ?_)); clear aa K0; simp only [put, app, af, aj, zE, zS, E])
 refine aq ?_
 refine hK4 _ ?_; clear hK4; refine ai [0, 1, 2, 6, 7, 8, 21, 22, 23] ?_; simp only [ad, lkp, zE, reduceCtorEq, J, ae, E]
 refine b8 ?_
 refine eP 6 (.int .i64) 3 (by decide) rfl ?_; simp only [List.length_cons, List.length_nil, List.cons_append, List.nil_append, Nat.zero_add, E]
 refine eP 7 (.int .i64) 3 (by decide) rfl ?_; simp only [List.length_cons, List.length_nil, List.cons_append, List.nil_append, Nat.zero_add, E]
 refine cj (fun n5 s5 => ∃ (k : Nat) (v1 v2 : Nat), (k ≤ xs.length) ∧ n5 = xs.length - k ∧ s5 = { env := [(0, .one (.ptr 5 0 0 0)), (1, .one (.list (.int .i64) xs)), (2, .one (.int .i64 a)), (6, .one (.row 12 v1)), (7, .one (.row 13 v2)), (8, .one (.int .i64 (m.nx.length : Int))), (21, .one (.list (.int .i64) xs)), (22, .one (.int .i64 (xs.length : Int))), (23, .one (.int .i64 (k : Int)))], L := [.vars 24 [.int .i64 m.inp, .int .i64 m.st, .list (.list (.int .i64)) m.nx, .list (.list (.int .i64)) m.ot], .vars 32 [.int .i64 p.inp, .int .i64 p.ab, .int .i64 p.st, .list (.list (.int .i64)) p.nx, .list (.list (.int .i64)) p.sy], .vars 24 [.int .i64 0, .int .i64 0, .nils, .nils], .vars 36 [.nils, .int .i64 0, .int .i64 0], .mp 60 .int (esS S), .vars 63 [.int .i64 m.inp, .int .i64 m.st, .list (.list (.int .i64)) m.nx, .list (.list (.int .i64)) m.ot, .int .i64 p.inp, .int .i64 p.ab, .int .i64 p.st, .list (.list (.int .i64)) p.nx, .list (.list (.int .i64)) p.sy, .row 6 S.length, .mpv 4], .row (.pair (.list (.int .i64)) (.pair (.list (.int .i64)) .unit)) 67 S.length (List.map eQ S), .vars 24 [.int .i64 p.ab, .int .i64 0, .row 8 u, .row 9 u], .row (.list (.int .i64)) 25 u N, .row (.list (.int .i64)) 25 u O, .row (.int .i64) 3 r nr, .row (.int .i64) 3 r orr, .row (.int .i64) 3 v1 (oA m p (xs.take k) a), .row (.int .i64) 3 v2 (nA m p (xs.take k) a)] }) ?_ ?_
 ·exact ⟨_, _, aY [0, 1, 2, 6, 7, 8, 21, 22, 23], 0, 0, 0, Nat.zero_le _, rfl, rfl⟩
 ·rintro n5 s5 ⟨k, v1, v2, hk, rfl, rfl⟩
  refine ah fun K6 hK6 => ?_
  refine ao hP hN rfl ?_
  (refine ag rfl fun K0 aa => ?_; simp only [zE, op1, ev, lkp, am, ak, aJ, aK, aI, ay, aH, aX, reduceCtorEq, J, E, U, Z, V, Y, Tryd.td3, Int.toNat_natCast]; (repeat refine And.intro (by first | omega | assumption | exact rfl) ?_); refine aa _ ?_; clear aa K0; simp only [put, app, af, aj, zE, zS, E])
  refine aq ?_
  refine hK6 _ ?_; clear hK6; refine ai [0, 1, 2, 6, 7, 8, 21, 22, 23, 24] ?_; simp only [ad, lkp, zE, reduceCtorEq, J, ae, E]
  refine ah fun K7 hK7 => ?_
  refine aL (by simp only [ev, ad, lkp, zE, reduceCtorEq, J, ae, E]; exact rfl) (fun hc8 => ?_) (fun hc8 => ?_)
  ·(try simp only [zB, reduceCtorEq] at hc8)
   refine aT ?_
   refine hK7 _ ?_; clear hK7; refine ai [0, 1, 2, 6, 7, 8, 21, 22, 23, 24] ?_; simp only [ad, lkp, zE, reduceCtorEq, J, ae, E]
   refine ah fun K9 hK9 => ?_
   refine b8 ?_
   refine ah fun K10 hK10 => ?_
   refine ao hP hN rfl ?_
   iterate 3 (refine ag rfl fun K0 aa => ?_; simp only [zE, op1, ev, lkp, am, ak, aS, zG, Ty.dflt, Ty.size, Nat.mul_one, ne_eq, not_false_eq_true, Int.natCast_one, Int.mul_one, aE, aC, aD, acs, az, reduceCtorEq, J, E, U, Z, V, Y, Tryd.el25, Tryd.td25, Tryd.td3, Int.toNat_natCast]; (repeat refine And.intro (by first | omega | assumption | exact rfl) ?_); refine aa _ ?_; clear aa K0; simp only [put, app, af, aj, zE, zS, E])
   refine aq ?_
   refine hK10 _ ?_; clear hK10; refine ai [0, 1, 2, 6, 7, 8, 10, 21, 22, 23, 24] ?_; simp only [ad, lkp, zE, reduceCtorEq, J, ae, E]
   refine ah fun K11 hK11 => ?_
   have hxr := hs.rng (xs.getD k 0) (cU (w := xs) (i := k) (by omega))
   have hq00 := (lI hm hp hi hxr (c := 0) (by omega)).1
   obtain ⟨hq1, hr1⟩ := wy (m := m) hxr.1
   have hol := sT (m := m) (p := p) hp.i2 (xs.take k) a; rw [List.length_take] at hol
   refine cB hP hN Tryd.mixed rfl ?_
   iterate 8 (refine ag rfl fun K0 aa => ?_; simp only [zE, op1, ev, lkp, am, ak, aJ, aK, aI, ay, aH, aX, reduceCtorEq, J, E, U, Z, V, Y, Tryd.td3, Int.toNat_natCast, hq1, hr1]; (repeat refine And.intro (by first | omega | assumption | exact rfl) ?_); refine aa _ ?_; clear aa K0; simp only [put, app, af, aj, zE, zS, E])
   refine aq ?_
   refine ⟨by kernel_rfl, ?_⟩
   refine hK11 _ ?_; clear hK11; refine ai [0, 1, 2, 6, 7, 8, 10, 11, 12, 21, 22, 23, 24] ?_; simp only [ad, lkp, zE, reduceCtorEq, J, ae, E]
   refine ah fun K12 hK12 => ?_
   refine ao hP hN rfl ?_
   (refine ag rfl fun K0 aa => ?_; simp only [zE, op1, ev, lkp, am, ak, ev, reduceCtorEq, J, E, U, Z, V, Y, Tryd.td4, Int.toNat_natCast]; refine aa _ ?_; clear aa K0; simp only [put, app, af, aj, zE, zS, E])
   refine aq ?_
   refine hK12 _ ?_; clear hK12; refine ai [0, 1, 2, 6, 7, 8, 10, 11, 12, 13, 21, 22, 23, 24] ?_; simp only [ad, lkp, zE, reduceCtorEq, J, ae, E]
   refine ah fun K13 hK13 => ?_
   refine ah fun K14 hK14 => ?_
   refine ao hP hN rfl ?_
   iterate 6 (refine ag rfl fun K0 aa => ?_; simp only [zE, op1, ev, lkp, am, ak, dK, aA, aE, Nat.mul_one, aC, aD, acs, Ty.dflt, zG, az, reduceCtorEq, J, E, U, Z, V, Y, Tryd.st32, Tryd.st63, Tryd.td1, Tryd.td3, Tryd.td32, Tryd.td63, Tryd.td83, Int.toNat_natCast]; (repeat refine And.intro (by first | omega | assumption | exact rfl) ?_); (first | refine aa _ ?_ | refine Or.inl (aa _ ?_)); clear aa K0; simp only [put, app, af, aj, zE, zS, E])
   refine aq ?_
   refine hK14 _ ?_; clear hK14; refine ai [0, 1, 2, 6, 7, 8, 10, 11, 12, 13, 21, 22, 23, 24, 37, 38] ?_; simp only [ad, lkp, zE, reduceCtorEq, J, ae, E]
   refine b8 ?_
   refine cj (fun n15 s15 => ∃ (c : Nat) (v1 v2 : Nat), ((c : Int) ≤ p.inp) ∧ n15 = p.inp.toNat - c ∧ s15 = { env := [(0, .one (.ptr 5 0 0 0)), (1, .one (.list (.int .i64) xs)), (2, .one (.int .i64 a)), (6, .one (.row 12 v1)), (7, .one (.row 13 v2)), (8, .one (.int .i64 (m.nx.length : Int))), (10, .one (.int .i64 (xs.getD k 0))), (11, .one (.int .i64 ((qxN m (xs.getD k 0)) : Int))), (12, .one (.int .i64 ((sxN m (xs.getD k 0)) : Int))), (13, .one (.bool (!(cK p (qxN m (xs.getD k 0)) a c).isEmpty))), (21, .one (.list (.int .i64) xs)), (22, .one (.int .i64 (xs.length : Int))), (23, .one (.int .i64 (k : Int))), (37, .one (.int .i64 p.inp)), (38, .one (.int .i64 (c : Int)))], L := [.vars 24 [.int .i64 m.inp, .int .i64 m.st, .list (.list (.int .i64)) m.nx, .list (.list (.int .i64)) m.ot], .vars 32 [.int .i64 p.inp, .int .i64 p.ab, .int .i64 p.st, .list (.list (.int .i64)) p.nx, .list (.list (.int .i64)) p.sy], .vars 24 [.int .i64 0, .int .i64 0, .nils, .nils], .vars 36 [.nils, .int .i64 0, .int .i64 0], .mp 60 .int (esS S), .vars 63 [.int .i64 m.inp, .int .i64 m.st, .list (.list (.int .i64)) m.nx, .list (.list (.int .i64)) m.ot, .int .i64 p.inp, .int .i64 p.ab, .int .i64 p.st, .list (.list (.int .i64)) p.nx, .list (.list (.int .i64)) p.sy, .row 6 S.length, .mpv 4], .row (.pair (.list (.int .i64)) (.pair (.list (.int .i64)) .unit)) 67 S.length (List.map eQ S), .vars 24 [.int .i64 p.ab, .int .i64 0, .row 8 u, .row 9 u], .row (.list (.int .i64)) 25 u N, .row (.list (.int .i64)) 25 u O, .row (.int .i64) 3 r nr, .row (.int .i64) 3 r orr, .row (.int .i64) 3 v1 (oA m p (xs.take k) a ++ oK m p (xs.getD k 0) a c), .row (.int .i64) 3 v2 (nA m p (xs.take k) a ++ nK m p (xs.getD k 0) a c)] }) ?_ ?_
   ·refine ⟨_, _, aY [0, 1, 2, 6, 7, 8, 10, 11, 12, 13, 21, 22, 23, 37, 38], 0, v1, v2, by omega, rfl, ?_⟩
    rw [uv, vG, List.append_nil, List.append_nil]; rfl
   ·rintro n15 s15 ⟨c, v1, v2, hc, rfl, rfl⟩
    refine ah fun K16 hK16 => ?_
    refine ao hP hN rfl ?_
    (refine ag rfl fun K0 aa => ?_; simp only [zE, op1, ev, lkp, am, ak, aJ, aK, aI, ay, aH, aX, reduceCtorEq, J, E, U, Z, V, Y, Tryd.td3, Tryd.td4, Int.toNat_natCast]; (repeat refine And.intro (by first | omega | assumption | exact rfl) ?_); refine aa _ ?_; clear aa K0; simp only [put, app, af, aj, zE, zS, E])
    refine aq ?_
    refine hK16 _ ?_; clear hK16; refine ai [0, 1, 2, 6, 7, 8, 10, 11, 12, 13, 21, 22, 23, 37, 38, 39] ?_; simp only [ad, lkp, zE, reduceCtorEq, J, ae, E]
    refine ah fun K17 hK17 => ?_
    refine aL (by simp only [ev, ad, lkp, zE, reduceCtorEq, J, ae, E]; exact rfl) (fun hc18 => ?_) (fun hc18 => ?_)
    ·(try simp only [zB, reduceCtorEq] at hc18)
     refine aT ?_
     refine hK17 _ ?_; clear hK17; refine ai [0, 1, 2, 6, 7, 8, 10, 11, 12, 13, 21, 22, 23, 37, 38, 39] ?_; simp only [ad, lkp, zE, reduceCtorEq, J, ae, E]
     refine ah fun K19 hK19 => ?_
     refine b8 ?_
     refine ah fun K20 hK20 => ?_
     refine ao hP hN rfl ?_
     iterate 2 (refine ag rfl fun K0 aa => ?_; simp only [zE, op1, ev, lkp, am, ak, ev, reduceCtorEq, J, E, U, Z, V, Y, Tryd.td3, Int.toNat_natCast]; refine aa _ ?_; clear aa K0; simp only [put, app, af, aj, zE, zS, E])
     refine aq ?_
     refine hK20 _ ?_; clear hK20; refine ai [0, 1, 2, 6, 7, 8, 10, 11, 12, 13, 14, 21, 22, 23, 37, 38, 39] ?_; simp only [ad, lkp, zE, reduceCtorEq, J, ae, E]
     refine ah fun K21 hK21 => ?_
     obtain ⟨⟨hq9, hs9⟩, hm9, hn9⟩ := lI hm hp hi hxr (c := c) (by omega)
     have hor := hm.or _ c hs9 (by omega); have r1 := hp.rl _ hq9; have r2 := hp.ql _ hq9; have r3 := hm.rl _ hs9; have r4 := hm.ql _ hs9
     have hkl := pt (m := m) (p := p) (xs.getD k 0) a c
     have ha1 : (oA m p (xs.take k) a ++ oK m p (xs.getD k 0) a c).length = (oA m p (xs.take k) a).length + (oK m p (xs.getD k 0) a c).length := List.length_append
     have ha2 : (nA m p (xs.take k) a ++ nK m p (xs.getD k 0) a c).length = (nA m p (xs.take k) a).length + (nK m p (xs.getD k 0) a c).length := List.length_append
     unfold nC at hn9
     have h8 : (p.nx.length : Int) * m.nx.length ≤ 128 * 128 := Int.mul_le_mul (by omega) (by omega) (by omega) (by omega)
     refine ao hP hN rfl ?_
     iterate 13 (refine ag rfl fun K0 aa => ?_; simp only [zE, op1, ev, lkp, am, ak, dK, aA, aE, Nat.mul_one, aC, aD, acs, Ty.dflt, zG, az, aS, Ty.size, ne_eq, not_false_eq_true, Int.natCast_one, Int.mul_one, aJ, aK, aI, ay, aH, aX, reduceCtorEq, J, E, U, Z, V, Y, Tryd.el22, Tryd.el25, Tryd.st32, Tryd.st63, Tryd.td1, Tryd.td22, Tryd.td25, Tryd.td3, Tryd.td32, Tryd.td4, Tryd.td63, Tryd.td83, Int.toNat_natCast]; (repeat refine And.intro (by first | omega | assumption | exact rfl) ?_); (first | refine aa _ ?_ | refine Or.inl (aa _ ?_)); clear aa K0; simp only [put, app, af, aj, zE, zS, E])
     refine aq ?_
     refine hK21 _ ?_; clear hK21; refine ai [0, 1, 2, 6, 7, 8, 10, 11, 12, 13, 14, 21, 22, 23, 37, 38, 39, 53] ?_; simp only [ad, lkp, zE, reduceCtorEq, J, ae, E]
     refine aL (by simp only [ev, ad, lkp, zE, reduceCtorEq, J, ae, E]; exact rfl) (fun hc22 => ?_) (fun hc22 => ?_)
     ·(try simp only [zB, reduceCtorEq] at hc22)
      have hy : (p.sy.getD (qxN m (xs.getD k 0)) []).getD c 0 = a := by simpa using hc22
      refine ah fun K23 hK23 => ?_
      refine ao hP hN rfl ?_
      (refine ag rfl fun K0 aa => ?_; simp only [zE, op1, ev, lkp, am, ak, ev, reduceCtorEq, J, E, U, Z, V, Y, Tryd.td4, Int.toNat_natCast]; refine aa _ ?_; clear aa K0; simp only [put, app, af, aj, zE, zS, E])
      refine aq ?_
      refine hK23 _ ?_; clear hK23; refine ai [0, 1, 2, 6, 7, 8, 10, 11, 12, 13, 14, 21, 22, 23, 37, 38, 39, 53] ?_; simp only [ad, lkp, zE, reduceCtorEq, J, ae, E]
      refine ah fun K24 hK24 => ?_
      refine ao hP hN rfl ?_
      iterate 16 (refine ag rfl fun K0 aa => ?_; simp only [zE, op1, ev, lkp, am, ak, dK, aA, aE, Nat.mul_one, aC, aD, acs, Ty.dflt, zG, az, aS, Ty.size, ne_eq, not_false_eq_true, Int.natCast_one, Int.mul_one, aJ, aK, aI, ay, aH, aX, b0, bl, c8, rep, aM, aR, ax, aP, bT, bC, bu, bv, bP, Nat.div_one, aV, bz, dite_true, reduceCtorEq, J, E, U, Z, V, Y, Tryd.el22, Tryd.el25, Tryd.st24, Tryd.st63, Tryd.td1, Tryd.td22, Tryd.td24, Tryd.td25, Tryd.td3, Tryd.td63, Tryd.td83, Int.toNat_natCast]; (repeat refine And.intro (by first | omega | assumption | exact rfl) ?_); (first | refine aa _ ?_ | refine Or.inl (aa _ ?_)); clear aa K0; simp only [put, app, af, aj, zE, zS, E])
      refine aq ?_
      refine hK24 _ ?_; clear hK24; refine ai [0, 1, 2, 6, 7, 8, 10, 11, 12, 13, 14, 21, 22, 23, 37, 38, 39, 53] ?_; simp only [ad, lkp, zE, reduceCtorEq, J, ae, E]
      refine cB hP hN Tryd.mixed rfl ?_
      iterate 29 (refine ag rfl fun K0 aa => ?_; simp only [zE, op1, ev, lkp, am, ak, dK, aA, aE, Nat.mul_one, aC, aD, acs, Ty.dflt, zG, az, aS, Ty.size, ne_eq, not_false_eq_true, Int.natCast_one, Int.mul_one, aJ, aK, aI, ay, aH, aX, b0, bl, c8, rep, aM, aR, ax, aP, bT, bC, bu, bv, bP, Nat.div_one, aV, bz, dite_true, reduceCtorEq, J, E, U, Z, V, Y, Tryd.el22, Tryd.el25, Tryd.st24, Tryd.st32, Tryd.st63, Tryd.td1, Tryd.td2, Tryd.td22, Tryd.td24, Tryd.td25, Tryd.td3, Tryd.td32, Tryd.td63, Tryd.td83, Int.toNat_natCast]; (repeat refine And.intro (by first | omega | assumption | exact rfl) ?_); (first | refine aa _ ?_ | refine Or.inl (aa _ ?_)); clear aa K0; simp only [put, app, af, aj, zE, zS, E])
      refine aq ?_
      refine ⟨by kernel_rfl, ?_⟩
      refine hK19 _ ?_; clear hK19; refine ai [0, 1, 2, 6, 7, 8, 10, 11, 12, 13, 14, 21, 22, 23, 37, 38, 39, 53] ?_; simp only [ad, lkp, zE, reduceCtorEq, J, ae, E]
      refine ao hP hN rfl ?_
      iterate 2 (refine ag rfl fun K0 aa => ?_; simp only [zE, op1, ev, lkp, am, ak, aJ, aK, aI, ay, aH, aX, reduceCtorEq, J, E, U, Z, V, Y, Tryd.td3, Int.toNat_natCast]; (repeat refine And.intro (by first | omega | assumption | exact rfl) ?_); refine aa _ ?_; clear aa K0; simp only [put, app, af, aj, zE, zS, E])
      refine aq ?_
      first
      | (refine ⟨_, _, ?_, aY [0, 1, 2, 6, 7, 8, 10, 11, 12, 13, 21, 22, 23, 37, 38], c + 1, v1 + 1, v2 + 1, by omega, rfl, ?_⟩
         · omega
         · rw [vX hy, tk hy, sM hy, ← List.append_assoc, ← List.append_assoc]; rfl)
      | (refine ⟨_, _, ?_, aY [0, 1, 2, 6, 7, 8, 10, 11, 12, 13, 21, 22, 23, 37, 38], c + 1, v1, v2, by omega, rfl, ?_⟩
         · omega
         · rw [rA hy, (oY hy).1, (oY hy).2]; rfl)
     ·(try simp only [zB, reduceCtorEq] at hc22)
      have hy : ¬ (p.sy.getD (qxN m (xs.getD k 0)) []).getD c 0 = a := by simpa using hc22
      refine aT ?_
      refine hK19 _ ?_; clear hK19; refine ai [0, 1, 2, 6, 7, 8, 10, 11, 12, 13, 14, 21, 22, 23, 37, 38, 39, 53] ?_; simp only [ad, lkp, zE, reduceCtorEq, J, ae, E]
      refine ao hP hN rfl ?_
      iterate 2 (refine ag rfl fun K0 aa => ?_; simp only [zE, op1, ev, lkp, am, ak, aJ, aK, aI, ay, aH, aX, reduceCtorEq, J, E, U, Z, V, Y, Tryd.td3, Int.toNat_natCast]; (repeat refine And.intro (by first | omega | assumption | exact rfl) ?_); refine aa _ ?_; clear aa K0; simp only [put, app, af, aj, zE, zS, E])
      refine aq ?_
      first
      | (refine ⟨_, _, ?_, aY [0, 1, 2, 6, 7, 8, 10, 11, 12, 13, 21, 22, 23, 37, 38], c + 1, v1 + 1, v2 + 1, by omega, rfl, ?_⟩
         · omega
         · rw [vX hy, tk hy, sM hy, ← List.append_assoc, ← List.append_assoc]; rfl)
      | (refine ⟨_, _, ?_, aY [0, 1, 2, 6, 7, 8, 10, 11, 12, 13, 21, 22, 23, 37, 38], c + 1, v1, v2, by omega, rfl, ?_⟩
         · omega
         · rw [rA hy, (oY hy).1, (oY hy).2]; rfl)
    ·(try simp only [zB, reduceCtorEq] at hc18)
     refine cm ?_
     refine hK13 _ ?_; clear hK13; refine ai [0, 1, 2, 6, 7, 8, 10, 11, 12, 13, 21, 22, 23, 37, 38, 39] ?_; simp only [ad, lkp, zE, reduceCtorEq, J, ae, E]
     refine ah fun K25 hK25 => ?_
     refine ao hP hN rfl ?_
     iterate 2 (refine ag rfl fun K0 aa => ?_; simp only [zE, op1, ev, lkp, am, ak, fw, reduceCtorEq, J, E, U, Z, V, Y, Tryd.td4, Int.toNat_natCast]; (repeat refine And.intro (by first | omega | assumption | exact rfl) ?_); refine aa _ ?_; clear aa K0; simp only [put, app, af, aj, zE, zS, E])
     refine aq ?_
     refine hK25 _ ?_; clear hK25; refine ai [0, 1, 2, 6, 7, 8, 10, 11, 12, 13, 21, 22, 23, 37, 38, 39, 99] ?_; simp only [ad, lkp, zE, reduceCtorEq, J, ae, E]
     refine aL (by simp only [ev, ad, lkp, zE, reduceCtorEq, J, ae, E]; exact rfl) (fun hc26 => ?_) (fun hc26 => ?_)
     ·(try simp only [zB, reduceCtorEq] at hc26)
      have he : cK p (qxN m (xs.getD k 0)) a p.inp.toNat = [] := by simpa [show p.inp.toNat = c by omega] using hc26
      have ha1 : (oA m p (xs.take k) a ++ oK m p (xs.getD k 0) a c).length = (oA m p (xs.take k) a).length + (oK m p (xs.getD k 0) a c).length := List.length_append
      have hkl := pt (m := m) (p := p) (xs.getD k 0) a c
      refine ao hP hN rfl ?_
      iterate 4 (refine ag rfl fun K0 aa => ?_; simp only [zE, op1, ev, lkp, am, ak, b0, bl, c8, rep, aM, aR, ax, Ty.size, aP, bT, bC, bu, bv, bP, Nat.div_one, aV, bz, dite_true, reduceCtorEq, J, E, U, Z, V, Y, Tryd.el25, Tryd.td1, Tryd.td25, Int.toNat_natCast]; (repeat refine And.intro (by first | omega | assumption | exact rfl) ?_); (first | refine aa _ ?_ | refine Or.inl (aa _ ?_)); clear aa K0; simp only [put, app, af, aj, zE, zS, E])
      refine aq ?_
      refine hK9 _ ?_; clear hK9; refine ai [0, 1, 2, 6, 7, 8, 10, 11, 12, 13, 21, 22, 23, 37, 38, 39, 99] ?_; simp only [ad, lkp, zE, reduceCtorEq, J, ae, E]
      refine ao hP hN rfl ?_
      iterate 2 (refine ag rfl fun K0 aa => ?_; simp only [zE, op1, ev, lkp, am, ak, aJ, aK, aI, ay, aH, aX, reduceCtorEq, J, E, U, Z, V, Y, Tryd.td3, Int.toNat_natCast]; (repeat refine And.intro (by first | omega | assumption | exact rfl) ?_); refine aa _ ?_; clear aa K0; simp only [put, app, af, aj, zE, zS, E])
      refine aq ?_
      first
      | (refine ⟨_, _, ?_, aY [0, 1, 2, 6, 7, 8, 21, 22, 23], k + 1, v1 + 1, v2, by omega, rfl, ?_⟩
         · omega
         · rw [wO (by omega) he, jv (by omega), show p.inp.toNat = c by omega]; rfl)
      | (refine ⟨_, _, ?_, aY [0, 1, 2, 6, 7, 8, 21, 22, 23], k + 1, v1, v2, by omega, rfl, ?_⟩
         · omega
         · rw [wM (by omega) he, jv (by omega), show p.inp.toNat = c by omega]; rfl)
     ·(try simp only [zB, reduceCtorEq] at hc26)
      have he : ¬ cK p (qxN m (xs.getD k 0)) a p.inp.toNat = [] := by simpa [show p.inp.toNat = c by omega] using hc26
      refine aT ?_
      refine hK9 _ ?_; clear hK9; refine ai [0, 1, 2, 6, 7, 8, 10, 11, 12, 13, 21, 22, 23, 37, 38, 39, 99] ?_; simp only [ad, lkp, zE, reduceCtorEq, J, ae, E]
      refine ao hP hN rfl ?_
      iterate 2 (refine ag rfl fun K0 aa => ?_; simp only [zE, op1, ev, lkp, am, ak, aJ, aK, aI, ay, aH, aX, reduceCtorEq, J, E, U, Z, V, Y, Tryd.td3, Int.toNat_natCast]; (repeat refine And.intro (by first | omega | assumption | exact rfl) ?_); refine aa _ ?_; clear aa K0; simp only [put, app, af, aj, zE, zS, E])
      refine aq ?_
      first
      | (refine ⟨_, _, ?_, aY [0, 1, 2, 6, 7, 8, 21, 22, 23], k + 1, v1 + 1, v2, by omega, rfl, ?_⟩
         · omega
         · rw [wO (by omega) he, jv (by omega), show p.inp.toNat = c by omega]; rfl)
      | (refine ⟨_, _, ?_, aY [0, 1, 2, 6, 7, 8, 21, 22, 23], k + 1, v1, v2, by omega, rfl, ?_⟩
         · omega
         · rw [wM (by omega) he, jv (by omega), show p.inp.toNat = c by omega]; rfl)
  ·(try simp only [zB, reduceCtorEq] at hc8)
   refine cm ?_
   refine hK3 _ ?_; clear hK3; refine ai [0, 1, 2, 6, 7, 8, 21, 22, 23, 24] ?_; simp only [ad, lkp, zE, reduceCtorEq, J, ae, E]
   refine ah fun K27 hK27 => ?_
   refine ah fun K28 hK28 => ?_
   have hkw : k = xs.length := by omega
   rw [hkw, List.take_length]
   have hol := sT (m := m) (p := p) hp.i2 xs a; have hop := tu (m := m) hp.i2 hx0 a
   refine ao hP hN rfl ?_
   iterate 3 (refine ag rfl fun K0 aa => ?_; simp only [zE, op1, ev, lkp, am, ak, aP, bT, bC, bu, bv, bP, Nat.div_one, aV, bz, Ty.size, aM, dite_true, aJ, aK, aI, ay, aH, aX, reduceCtorEq, J, E, U, Z, V, Y, Tryd.el25, Tryd.td25, Tryd.td3, Tryd.td4, Int.toNat_natCast]; (repeat refine And.intro (by first | omega | assumption | exact rfl) ?_); (first | refine aa _ ?_ | refine Or.inl (aa _ ?_)); clear aa K0; simp only [put, app, af, aj, zE, zS, E])
   refine aq ?_
   refine hK28 _ ?_; clear hK28; refine ai [0, 1, 2, 6, 7, 8, 21, 22, 23, 24, 106] ?_; simp only [ad, lkp, zE, reduceCtorEq, J, ae, E]
   refine aL (by simp only [ev, ad, lkp, zE, reduceCtorEq, J, ae, E]; exact rfl) (fun hc29 => ?_) (fun hc29 => ?_)
   ·(try simp only [zB, reduceCtorEq] at hc29)
    have hNa := xn (m := m) (p := p) (xs := xs) (a := a) (by omega)
    refine ao hP hN rfl ?_
    (refine ag rfl fun K0 aa => ?_; simp only [zE, op1, ev, lkp, am, ak, ev, reduceCtorEq, J, E, U, Z, V, Y, Tryd.el25, Tryd.td25, Int.toNat_natCast]; refine aa _ ?_; clear aa K0; simp only [put, app, af, aj, zE, zS, E])
    refine ag rfl fun K0 aa => ?_
    refine aW (h := nk (tU xs (by omega) (by omega))) rfl rfl (by first | exact rfl | (simp only [ev, ad, lkp, zE, reduceCtorEq, J, ae, E]; exact rfl)) (by simp only [zE, zG, op1, ev, lkp, am, ak, ax, acs, bf, mv1, mvC, Ty.dflt, reduceCtorEq, J, E, U, Z, V, Y, Int.toNat_natCast]) ?_
    refine aa _ ?_; clear aa K0; simp only [put, app, af, aj, zE, zS, E]
    (refine ag rfl fun K0 aa => ?_; simp only [zE, op1, ev, lkp, am, ak, ev, reduceCtorEq, J, E, U, Z, V, Y, Tryd.el25, Tryd.td25, Int.toNat_natCast]; refine aa _ ?_; clear aa K0; simp only [put, app, af, aj, zE, zS, E])
    refine aq ?_
    refine hK27 _ ?_; clear hK27; refine ai [0, 1, 2, 6, 7, 8, 21, 22, 23, 24, 106] ?_; simp only [ad, lkp, zE, reduceCtorEq, J, ae, E]
    refine ah fun K30 hK30 => ?_
    refine ao hP hN rfl ?_
    (refine ag rfl fun K0 aa => ?_; simp only [zE, op1, ev, lkp, am, ak, ev, reduceCtorEq, J, E, U, Z, V, Y, Tryd.el25, Tryd.td25, Int.toNat_natCast]; refine aa _ ?_; clear aa K0; simp only [put, app, af, aj, zE, zS, E])
    refine ag rfl fun K0 aa => ?_
    refine aW (h := gW (k := 12) (ver := v1) (xs := oA m p xs a) js rfl (by omega) (by omega)) rfl rfl (by first | exact rfl | (simp only [ev, ad, lkp, zE, reduceCtorEq, J, ae, E]; exact rfl)) (by simp only [zE, zG, op1, ev, lkp, am, ak, ax, acs, bf, mv1, mvC, Ty.dflt, reduceCtorEq, J, E, U, Z, V, Y, Int.toNat_natCast]) ?_
    refine aa _ ?_; clear aa K0; simp only [put, app, af, aj, zE, zS, E]
    refine aq ?_
    refine hK30 _ ?_; clear hK30; refine ai [0, 1, 2, 6, 7, 8, 21, 22, 23, 24, 106] ?_; simp only [ad, lkp, zE, reduceCtorEq, J, ae, E]
    refine ah fun K31 hK31 => ?_
    refine ao hP hN rfl ?_
    (refine ag rfl fun K0 aa => ?_; simp only [zE, op1, ev, lkp, am, ak, ev, reduceCtorEq, J, E, U, Z, V, Y, Tryd.el25, Tryd.td25, Int.toNat_natCast]; refine aa _ ?_; clear aa K0; simp only [put, app, af, aj, zE, zS, E])
    refine ag rfl fun K0 aa => ?_
    refine aW (h := gW (k := 14) (ver := 0) (xs := xs) js rfl (by omega) (by omega)) rfl rfl (by first | exact rfl | (simp only [ev, ad, lkp, zE, reduceCtorEq, J, ae, E]; exact rfl)) (by simp only [zE, zG, op1, ev, lkp, am, ak, ax, acs, bf, mv1, mvC, Ty.dflt, reduceCtorEq, J, E, U, Z, V, Y, Int.toNat_natCast]) ?_
    refine aa _ ?_; clear aa K0; simp only [put, app, af, aj, zE, zS, E]
    refine aq ?_
    refine hK31 _ ?_; clear hK31; refine ai [0, 1, 2, 6, 7, 8, 21, 22, 23, 24, 106] ?_; simp only [ad, lkp, zE, reduceCtorEq, J, ae, E]
    refine ah fun K32 hK32 => ?_
    refine ao hP hN rfl ?_
    (refine ag rfl fun K0 aa => ?_; simp only [zE, op1, ev, lkp, am, ak, ev, reduceCtorEq, J, E, U, Z, V, Y, Tryd.el25, Tryd.td25, Int.toNat_natCast]; refine aa _ ?_; clear aa K0; simp only [put, app, af, aj, zE, zS, E])
    refine ag rfl fun K0 aa => ?_
    refine aW (h := eY (k := 12) (ver := v1) (xs := eC (oA m p xs a)) ga rfl (by rw [dP]; omega) (by rw [dP]; omega) fz) rfl rfl (by first | exact rfl | (simp only [ev, ad, lkp, zE, reduceCtorEq, J, ae, E]; exact rfl)) (by simp only [zE, zG, op1, ev, lkp, am, ak, ax, acs, bf, mv1, mvC, Ty.dflt, reduceCtorEq, J, E, U, Z, V, Y, Int.toNat_natCast]) ?_
    refine aa _ ?_; clear aa K0; simp only [put, app, af, aj, zE, zS, E]
    (refine ag rfl fun K0 aa => ?_; simp only [zE, op1, ev, lkp, am, ak, ev, reduceCtorEq, J, E, U, Z, V, Y, Tryd.el25, Tryd.td25, Int.toNat_natCast]; refine aa _ ?_; clear aa K0; simp only [put, app, af, aj, zE, zS, E])
    refine ag rfl fun K0 aa => ?_
    refine aW (h := eY (k := 14) (ver := 0) (xs := eC xs) ga rfl (by rw [dP]; omega) (by rw [dP]; omega) fz) rfl rfl (by first | exact rfl | (simp only [ev, ad, lkp, zE, reduceCtorEq, J, ae, E]; exact rfl)) (by simp only [zE, zG, op1, ev, lkp, am, ak, ax, acs, bf, mv1, mvC, Ty.dflt, reduceCtorEq, J, E, U, Z, V, Y, Int.toNat_natCast]) ?_
    refine aa _ ?_; clear aa K0; simp only [put, app, af, aj, zE, zS, E]
    iterate 2 (refine ag rfl fun K0 aa => ?_; simp only [zE, op1, ev, lkp, am, ak, ev, reduceCtorEq, J, E, U, Z, V, Y, Tryd.el25, Tryd.td25, Int.toNat_natCast]; refine aa _ ?_; clear aa K0; simp only [put, app, af, aj, zE, zS, E])
    refine aq ?_
    refine hK32 _ ?_; clear hK32; refine ai [0, 1, 2, 6, 7, 8, 21, 22, 23, 24, 106] ?_; simp only [ad, lkp, zE, reduceCtorEq, J, ae, E]
    refine da 12 rfl ?_; simp only [List.map_cons, List.map_nil, zS, J, and_self, and_true, true_and, and_false, false_and, if_true, if_false, eq_self, reduceCtorEq, Nat.one_ne_zero, Nat.zero_ne_one]
    refine da 13 rfl ?_; simp only [List.map_cons, List.map_nil, zS, J, and_self, and_true, true_and, and_false, false_and, if_true, if_false, eq_self, reduceCtorEq, Nat.one_ne_zero, Nat.zero_ne_one]
    first
    | (refine da 14 rfl ?_; simp only [List.map_cons, List.map_nil, zS, J, and_self, and_true, true_and, and_false, false_and, if_true, if_false, eq_self, reduceCtorEq, Nat.one_ne_zero, Nat.zero_ne_one]; refine d7 (n := 14) (L1 := [_, _, _, _, _, _, _, _, _, _, _, _, _, _]) rfl rfl (by rw [hB]; decide) rfl rfl ?_)
    | skip
    refine d7 (n := 13) (L1 := [_, _, _, _, _, _, _, _, _, _, _, _, _]) rfl rfl (by rw [hB]; decide) rfl rfl ?_
    refine d7 (n := 12) (L1 := [_, _, _, _, _, _, _, _, _, _, _, _]) rfl rfl (by rw [hB]; decide) rfl rfl ?_
    refine aU ?_
    refine ⟨by first | exact .inl rfl | exact .inr rfl, _, rfl, ?_⟩; simp only [ad, lkp, zE, reduceCtorEq, J, ae, E, Int.toNat_natCast]
    rw [hNa]
    first | exact ⟨rfl, rfl⟩ | exact ⟨rfl, trivial⟩ | rfl
   ·(try simp only [zB, reduceCtorEq] at hc29)
    have hNa := xr (m := m) (p := p) (xs := xs) (a := a) (by omega)
    refine aT ?_
    refine hK27 _ ?_; clear hK27; refine ai [0, 1, 2, 6, 7, 8, 21, 22, 23, 24, 106] ?_; simp only [ad, lkp, zE, reduceCtorEq, J, ae, E]
    refine ah fun K33 hK33 => ?_
    refine ao hP hN rfl ?_
    (refine ag rfl fun K0 aa => ?_; simp only [zE, op1, ev, lkp, am, ak, ev, reduceCtorEq, J, E, U, Z, V, Y, Tryd.el25, Tryd.td25, Int.toNat_natCast]; refine aa _ ?_; clear aa K0; simp only [put, app, af, aj, zE, zS, E])
    refine ag rfl fun K0 aa => ?_
    refine aW (h := gW (k := 12) (ver := v1) (xs := oA m p xs a) js rfl (by omega) (by omega)) rfl rfl (by first | exact rfl | (simp only [ev, ad, lkp, zE, reduceCtorEq, J, ae, E]; exact rfl)) (by simp only [zE, zG, op1, ev, lkp, am, ak, ax, acs, bf, mv1, mvC, Ty.dflt, reduceCtorEq, J, E, U, Z, V, Y, Int.toNat_natCast]) ?_
    refine aa _ ?_; clear aa K0; simp only [put, app, af, aj, zE, zS, E]
    refine aq ?_
    refine hK33 _ ?_; clear hK33; refine ai [0, 1, 2, 6, 7, 8, 21, 22, 23, 24, 106] ?_; simp only [ad, lkp, zE, reduceCtorEq, J, ae, E]
    refine ah fun K34 hK34 => ?_
    refine ao hP hN rfl ?_
    (refine ag rfl fun K0 aa => ?_; simp only [zE, op1, ev, lkp, am, ak, ev, reduceCtorEq, J, E, U, Z, V, Y, Tryd.el25, Tryd.td25, Int.toNat_natCast]; refine aa _ ?_; clear aa K0; simp only [put, app, af, aj, zE, zS, E])
    refine ag rfl fun K0 aa => ?_
    refine aW (h := gW (k := 13) (ver := v2) (xs := nA m p xs a) js rfl (by omega) (by omega)) rfl rfl (by first | exact rfl | (simp only [ev, ad, lkp, zE, reduceCtorEq, J, ae, E]; exact rfl)) (by simp only [zE, zG, op1, ev, lkp, am, ak, ax, acs, bf, mv1, mvC, Ty.dflt, reduceCtorEq, J, E, U, Z, V, Y, Int.toNat_natCast]) ?_
    refine aa _ ?_; clear aa K0; simp only [put, app, af, aj, zE, zS, E]
    refine aq ?_
    refine hK34 _ ?_; clear hK34; refine ai [0, 1, 2, 6, 7, 8, 21, 22, 23, 24, 106] ?_; simp only [ad, lkp, zE, reduceCtorEq, J, ae, E]
    refine ah fun K35 hK35 => ?_
    refine ao hP hN rfl ?_
    (refine ag rfl fun K0 aa => ?_; simp only [zE, op1, ev, lkp, am, ak, ev, reduceCtorEq, J, E, U, Z, V, Y, Tryd.el25, Tryd.td25, Int.toNat_natCast]; refine aa _ ?_; clear aa K0; simp only [put, app, af, aj, zE, zS, E])
    refine ag rfl fun K0 aa => ?_
    refine aW (h := eY (k := 12) (ver := v1) (xs := eC (oA m p xs a)) ga rfl (by rw [dP]; omega) (by rw [dP]; omega) fz) rfl rfl (by first | exact rfl | (simp only [ev, ad, lkp, zE, reduceCtorEq, J, ae, E]; exact rfl)) (by simp only [zE, zG, op1, ev, lkp, am, ak, ax, acs, bf, mv1, mvC, Ty.dflt, reduceCtorEq, J, E, U, Z, V, Y, Int.toNat_natCast]) ?_
    refine aa _ ?_; clear aa K0; simp only [put, app, af, aj, zE, zS, E]
    (refine ag rfl fun K0 aa => ?_; simp only [zE, op1, ev, lkp, am, ak, ev, reduceCtorEq, J, E, U, Z, V, Y, Tryd.el25, Tryd.td25, Int.toNat_natCast]; refine aa _ ?_; clear aa K0; simp only [put, app, af, aj, zE, zS, E])
    refine ag rfl fun K0 aa => ?_
    refine aW (h := eY (k := 13) (ver := v2) (xs := eC (nA m p xs a)) ga rfl (by rw [dP]; omega) (by rw [dP]; omega) fz) rfl rfl (by first | exact rfl | (simp only [ev, ad, lkp, zE, reduceCtorEq, J, ae, E]; exact rfl)) (by simp only [zE, zG, op1, ev, lkp, am, ak, ax, acs, bf, mv1, mvC, Ty.dflt, reduceCtorEq, J, E, U, Z, V, Y, Int.toNat_natCast]) ?_
    refine aa _ ?_; clear aa K0; simp only [put, app, af, aj, zE, zS, E]
    iterate 2 (refine ag rfl fun K0 aa => ?_; simp only [zE, op1, ev, lkp, am, ak, ev, reduceCtorEq, J, E, U, Z, V, Y, Tryd.el25, Tryd.td25, Int.toNat_natCast]; refine aa _ ?_; clear aa K0; simp only [put, app, af, aj, zE, zS, E])
    refine aq ?_
    refine hK35 _ ?_; clear hK35; refine ai [0, 1, 2, 6, 7, 8, 21, 22, 23, 24, 106] ?_; simp only [ad, lkp, zE, reduceCtorEq, J, ae, E]
    refine da 12 rfl ?_; simp only [List.map_cons, List.map_nil, zS, J, and_self, and_true, true_and, and_false, false_and, if_true, if_false, eq_self, reduceCtorEq, Nat.one_ne_zero, Nat.zero_ne_one]
    refine da 13 rfl ?_; simp only [List.map_cons, List.map_nil, zS, J, and_self, and_true, true_and, and_false, false_and, if_true, if_false, eq_self, reduceCtorEq, Nat.one_ne_zero, Nat.zero_ne_one]
    first
    | (refine da 14 rfl ?_; simp only [List.map_cons, List.map_nil, zS, J, and_self, and_true, true_and, and_false, false_and, if_true, if_false, eq_self, reduceCtorEq, Nat.one_ne_zero, Nat.zero_ne_one]; refine d7 (n := 14) (L1 := [_, _, _, _, _, _, _, _, _, _, _, _, _, _]) rfl rfl (by rw [hB]; decide) rfl rfl ?_)
    | skip
    refine d7 (n := 13) (L1 := [_, _, _, _, _, _, _, _, _, _, _, _, _]) rfl rfl (by rw [hB]; decide) rfl rfl ?_
    refine d7 (n := 12) (L1 := [_, _, _, _, _, _, _, _, _, _, _, _]) rfl rfl (by rw [hB]; decide) rfl rfl ?_
    refine aU ?_
    refine ⟨by first | exact .inl rfl | exact .inr rfl, _, rfl, ?_⟩; simp only [ad, lkp, zE, reduceCtorEq, J, ae, E, Int.toNat_natCast]
    rw [hNa]
    first | exact ⟨rfl, rfl⟩ | exact ⟨rfl, trivial⟩ | rfl
end Go.Proofs.YtceafldjjedhcaaDoor
namespace Go.AV
open Nat renaming reduceEqDiff → J, reduceAdd → E, reduceLeDiff → U, reduceLT → Z, reduceMul → V, reduceSub → Y
open List renaming set_cons_zero → aw, set_cons_succ → au
/-plain-/
/-! ### canonical machines: numbered in the order of their access words, and no two states equivalent -/
theorem iQ {l : List Int} {i : Nat} (h : i < l.length) : l.getD i 0 = l[i] := by simp [List.getD, h]
def rgI (n : Nat) : List Int := (List.range n).map fun (i : Nat) => (i : Int)
theorem ff (n : Nat) : (rgI n).length = n := by simp [rgI]
theorem lH {n i : Nat} (h : i < n) : (rgI n).getD i 0 = (i : Int) := by simp [rgI, List.getD, h]
theorem lO {n : Nat} {x : Int} : x ∈ rgI n ↔ 0 ≤ x ∧ x < n := by
  unfold rgI
  rw [List.mem_map]
  constructor
  · rintro ⟨i, hi, rfl⟩
    have := List.mem_range.1 hi; omega
  · intro h
    exact ⟨x.toNat, List.mem_range.2 (by omega), by omega⟩
theorem o7 (n : Nat) : rgI (n + 1) = rgI n ++ [(n : Int)] := by simp [rgI, List.range_succ]
theorem mu {n : Nat} {l k : List Int} (h : l ++ k = rgI n) : l = rgI l.length := by
  have hl : l.length ≤ n := by have := congrArg List.length h; rw [List.length_append, ff] at this; omega
  refine List.ext_getElem (by rw [ff]) fun i h1 h2 => ?_
  have e1 : (l ++ k).getD i 0 = l.getD i 0 := by simp [List.getD, List.getElem?_append_left h1]
  rw [h, lH (by omega)] at e1
  have e2 : l.getD i 0 = l[i] := by simp [List.getD, h1]
  have e3 : (rgI l.length).getD i 0 = (rgI l.length)[i] := by simp [List.getD, h2]
  rw [← e2, ← e3, ← e1, lH h1]
structure CAN (x : Mly) : Prop where
  ok : MOK x
  st : x.st = 0
  rc : x.reach = rgI x.nx.length
  ds : ∀ i j : Int, 0 ≤ i → i < x.nx.length → 0 ≤ j → j < x.nx.length → EQV x i j → i = j
theorem v5 {x y : Mly} {s t : Int} (h : EQ2 x y s t) {a : Nat} (ha : (a : Int) < x.inp) : x.out s a = y.out t a := by
  have := h [(a : Int)] fun i hi => by
    have : i = 0 := by simpa using hi
    subst this; simp [List.getD]; omega
  rw [di, di] at this
  injection this
theorem qo {x y : Mly} {s t : Int} (h : EQ2 x y s t) {a : Nat} (ha : (a : Int) < x.inp) : EQ2 x y (x.nxt s a) (y.nxt t a) := fun w hw => by
  have := h ((a : Int) :: w) fun i hi => by
    cases i with
    | zero => simp [List.getD]; omega
    | succ i => have := hw i (by simpa using hi); simpa [List.getD] using this
  rw [di, di] at this
  injection this
theorem ub {x y : Mly} (hi : x.inp = y.inp) {s t u : Int} (h : EQ2 x y s u) (g : EQ2 x y t u) : EQV x s t := fun w hw => (h w hw).trans (g w hw).symm
theorem mM {x y : Mly} (hi : x.inp = y.inp) {s t u : Int} (h : EQ2 x y s t) (g : EQ2 x y s u) : EQV y t u := fun w hw => (h w (by rw [hi]; exact hw)).symm.trans (g w (by rw [hi]; exact hw))
/-- Both machines have met the same states, and these are equivalent one by one. -/
structure LCK (x y : Mly) (l : List Int) : Prop where
  eq : ∀ j, j ∈ l → EQ2 x y j j
  bx : ∀ j, j ∈ l → 0 ≤ j ∧ j < x.nx.length
  by_ : ∀ j, j ∈ l → 0 ≤ j ∧ j < y.nx.length
theorem u7 {x y : Mly} (hx : CAN x) (hy : CAN y) (hi : x.inp = y.inp) {l : List Int} (h : LCK x y l) {u v : Int} (hu : 0 ≤ u ∧ u < x.nx.length) (hv : 0 ≤ v ∧ v < y.nx.length) (he : EQ2 x y u v)
    (px : ∃ k, cw l u ++ k = x.reach) (py : ∃ k, cw l v ++ k = y.reach) : cw l u = cw l v ∧ LCK x y (cw l u) := by
  by_cases a : u ∈ l
  · have h1 := h.by_ u a
    have h2 := hy.ds u v h1.1 h1.2 hv.1 hv.2 (mM hi (h.eq u a) he)
    subst h2
    rw [fc a]; exact ⟨rfl, h⟩
  · by_cases b : v ∈ l
    · have h1 := h.bx v b
      have h2 := hx.ds v u h1.1 h1.2 hu.1 hu.2 (ub hi (h.eq v b) he)
      subst h2; exact absurd b a
    · obtain ⟨k1, e1⟩ := px
      obtain ⟨k2, e2⟩ := py
      rw [ef a, hx.rc] at e1
      rw [ef b, hy.rc] at e2
      have f1 := mu e1
      have f2 := mu e2
      have : l ++ [u] = l ++ [v] := by
        rw [f1, f2, List.length_append, List.length_append]; rfl
      have huv : u = v := by
        have := List.append_cancel_left this
        simpa using this
      subst huv
      refine ⟨rfl, ?_⟩
      rw [ef a]
      refine ⟨fun j hj => ?_, fun j hj => ?_, fun j hj => ?_⟩ <;> (rcases List.mem_append.1 hj with hj | hj)
      · exact h.eq j hj
      · have : j = u := by simpa using hj
        subst this; exact he
      · exact h.bx j hj
      · have : j = u := by simpa using hj
        subst this; exact hu
      · exact h.by_ j hj
      · have : j = u := by simpa using hj
        subst this; exact hv
theorem oD {x y : Mly} (hx : CAN x) (hy : CAN y) (hi : x.inp = y.inp) {l : List Int} (h : LCK x y l) {i : Int} (hl : i ∈ l) : ∀ a : Nat, (a : Int) ≤ x.inp →
    (∃ k, ((x.row i).take a).foldl cw l ++ k = x.reach) → (∃ k, ((y.row i).take a).foldl cw l ++ k = y.reach) →
    ((x.row i).take a).foldl cw l = ((y.row i).take a).foldl cw l ∧ LCK x y (((x.row i).take a).foldl cw l)
  | 0, _, _, _ => ⟨rfl, h⟩
  | a + 1, ha, px, py => by
    have bx := h.bx i hl; have by1 := h.by_ i hl
    have rx : ((x.row i).length : Int) = x.inp := hx.ok.rl i.toNat (by omega)
    have ry : ((y.row i).length : Int) = y.inp := hy.ok.rl i.toNat (by omega)
    rw [m6 (by omega)] at px ⊢
    rw [m6 (by omega)] at py ⊢
    have px0 : ∃ k, ((x.row i).take a).foldl cw l ++ k = x.reach := by
      obtain ⟨k, e⟩ := px; obtain ⟨k2, e2⟩ := ka (((x.row i).take a).foldl cw l) ((x.row i).getD a 0)
      exact ⟨k2 ++ k, by rw [← List.append_assoc, ← e2, e]⟩
    have py0 : ∃ k, ((y.row i).take a).foldl cw l ++ k = y.reach := by
      obtain ⟨k, e⟩ := py; obtain ⟨k2, e2⟩ := ka (((y.row i).take a).foldl cw l) ((y.row i).getD a 0)
      exact ⟨k2 ++ k, by rw [← List.append_assoc, ← e2, e]⟩
    obtain ⟨e1, h1⟩ := oD hx hy hi h hl a (by omega) px0 py0
    rw [← e1] at py ⊢
    exact u7 hx hy hi h1 (hx.ok.nr i.toNat a (by omega) (by omega)) (hy.ok.nr i.toNat a (by omega) (by omega)) (qo (h.eq i hl) (by omega)) px py
theorem tt {x y : Mly} (hx : CAN x) (hy : CAN y) (hi : x.inp = y.inp) : ∀ (f i : Nat) (l : List Int), LCK x y l → x.rf f i l = x.reach → y.rf f i l = y.reach → x.reach = y.reach ∧ LCK x y x.reach
  | 0, i, l, h, ex, ey => ⟨ex.symm.trans ey, by rw [← ex]; exact h⟩
  | f + 1, i, l, h, ex, ey => by
    by_cases hil : i < l.length
    · rw [fP x f i l hil] at ex
      rw [fP y f i l hil] at ey
      have hm : l.getD i 0 ∈ l := cU hil
      have bx := h.bx _ hm; have by1 := h.by_ _ hm
      have rx : ((x.row (l.getD i 0)).length : Int) = x.inp := hx.ok.rl (l.getD i 0).toNat (by omega)
      have ry : ((y.row (l.getD i 0)).length : Int) = y.inp := hy.ok.rl (l.getD i 0).toNat (by omega)
      have hi1 := hx.ok.i1
      have tx : (x.row (l.getD i 0)).take x.inp.toNat = x.row (l.getD i 0) := List.take_of_length_le (by omega)
      have ty : (y.row (l.getD i 0)).take x.inp.toNat = y.row (l.getD i 0) := List.take_of_length_le (by omega)
      have px : ∃ k, ((x.row (l.getD i 0)).take x.inp.toNat).foldl cw l ++ k = x.reach := by
        rw [tx]; obtain ⟨k, e⟩ := iK x f (i + 1) ((x.row (l.getD i 0)).foldl cw l); exact ⟨k, by rw [← e, ex]⟩
      have py : ∃ k, ((y.row (l.getD i 0)).take x.inp.toNat).foldl cw l ++ k = y.reach := by
        rw [ty]; obtain ⟨k, e⟩ := iK y f (i + 1) ((y.row (l.getD i 0)).foldl cw l); exact ⟨k, by rw [← e, ey]⟩
      obtain ⟨e1, h1⟩ := oD hx hy hi h hm x.inp.toNat (by omega) px py
      rw [tx, ty] at e1
      rw [tx] at h1
      rw [← e1] at ey
      exact tt hx hy hi f (i + 1) _ h1 ex ey
    · rw [eZ x _ _ _ (by omega)] at ex
      rw [eZ y _ _ _ (by omega)] at ey
      exact ⟨ex.symm.trans ey, by rw [← ex]; exact h⟩
theorem wt {x y : Mly} (hx : CAN x) (hy : CAN y) (hi : x.inp = y.inp) (h : EQ2 x y 0 0) : x.nx = y.nx ∧ x.ot = y.ot := by
  have hn1 := hx.ok.n1; have hn2 := hy.ok.n1
  have ex : x.rf (x.nx.length + y.nx.length + 1) 0 [0] = x.reach := by
    rw [dq (cI hx.ok), hx.st]
    have := ng hx.ok (x.nx.length + 1) 0 [0] (by have := fF hx.ok; rwa [hx.st] at this) (by omega) (x.nx.length + y.nx.length + 1) (by omega)
    exact this
  have ey : y.rf (x.nx.length + y.nx.length + 1) 0 [0] = y.reach := by
    rw [dq (cI hy.ok), hy.st]
    have := ng hy.ok (y.nx.length + 1) 0 [0] (by have := fF hy.ok; rwa [hy.st] at this) (by omega) (x.nx.length + y.nx.length + 1) (by omega)
    exact this
  have h0 : LCK x y [0] := ⟨fun j hj => (by have : j = 0 := by simpa using hj
                                            subst this; exact h), fun j hj => (by have : j = 0 := by simpa using hj
                                                                                  subst this; omega), fun j hj => (by have : j = 0 := by simpa using hj
                                                                                                                      subst this; omega)⟩
  obtain ⟨e, hl⟩ := tt hx hy hi _ 0 [0] h0 ex ey
  have hlen : x.nx.length = y.nx.length := by
    have := congrArg List.length e
    rwa [hx.rc, hy.rc, ff, ff] at this
  have hq : ∀ j : Nat, j < x.nx.length → EQ2 x y j j := fun j hj => hl.eq j (by rw [hx.rc]; exact lO.2 ⟨by omega, by omega⟩)
  have hox := hx.ok.ol; have hoy := hy.ok.ol
  have hi1 := hx.ok.i1
  constructor
  · refine List.ext_getElem hlen fun j h1 h2 => ?_
    have r1 := hx.ok.rl j h1; have r2 := hy.ok.rl j h2
    have g1 : x.nx.getD j [] = x.nx[j] := by simp [List.getD, h1]
    have g2 : y.nx.getD j [] = y.nx[j] := by simp [List.getD, h2]
    rw [← g1, ← g2]
    refine List.ext_getElem (by omega) fun a a1 a2 => ?_
    have n1 := hx.ok.nr j a h1 (by omega); have n2 := hy.ok.nr j a h2 (by omega)
    have q1 := qo (hq j h1) (a := a) (by omega)
    have m1 : x.nxt j a = (x.nx.getD j []).getD a 0 := rfl
    have m2 : y.nxt j a = (y.nx.getD j []).getD a 0 := rfl
    rw [m1, m2] at q1
    have q2 := hq ((x.nx.getD j []).getD a 0).toNat (by omega)
    rw [Int.toNat_of_nonneg n1.1] at q2
    have := hy.ds _ _ n1.1 (by omega) n2.1 n2.2 (mM hi q2 q1)
    rw [← iQ a1, ← iQ a2]; exact this
  · refine List.ext_getElem (by omega) fun j h1 h2 => ?_
    have r1 := hx.ok.ql j (by omega); have r2 := hy.ok.ql j (by omega)
    have g1 : x.ot.getD j [] = x.ot[j] := by simp [List.getD, h1]
    have g2 : y.ot.getD j [] = y.ot[j] := by simp [List.getD, h2]
    rw [← g1, ← g2]
    refine List.ext_getElem (by omega) fun a a1 a2 => ?_
    have q1 := v5 (hq j (by omega)) (a := a) (by omega)
    have m1 : x.out j a = (x.ot.getD j []).getD a 0 := rfl
    have m2 : y.out j a = (y.ot.getD j []).getD a 0 := rfl
    rw [m1, m2] at q1
    rw [← iQ a1, ← iQ a2]; exact q1
end Go.AV
namespace Go.AV
open Nat renaming reduceEqDiff → J, reduceAdd → E, reduceLeDiff → U, reduceLT → Z, reduceMul → V, reduceSub → Y
open List renaming set_cons_zero → aw, set_cons_succ → au
/-plain-/
/-! The machine of the reachable pairs. -/
abbrev PP := Int × Int
abbrev SYS := PP → Nat → PP × Int
def d0 : PP := (0, 0)
def bL (F : SYS) (p : PP) (l : List PP) (x : Nat) : List PP := (List.range x).foldl (fun l y => eO l (F p y).1) l
def bN (F : SYS) (p : PP) (l : List PP) (x : Nat) : List Int := (List.range x).map fun y => (pos (bL F p l y) (F p y).1 : Int)
def bO (F : SYS) (p : PP) (x : Nat) : List Int := (List.range x).map fun y => (F p y).2
def bX (F : SYS) (p : PP) (l : List PP) (y : Nat) : Bool := decide (128 < (bL F p l (y + 1)).length) || decide (1048576 < (F p y).2)
abbrev BST := List PP × (List (List Int) × List (List Int))
def bA (F : SYS) (n i : Nat) (s : BST) : BST := (bL F (s.1.getD i d0) s.1 n, s.2.1 ++ [bN F (s.1.getD i d0) s.1 n], s.2.2 ++ [bO F (s.1.getD i d0) n])
def bF (F : SYS) (n : Nat) : Nat → Nat → BST → Option BST
  | 0, _, _ => none
  | f + 1, i, s => if i < s.1.length then if (List.range n).any (bX F (s.1.getD i d0) s.1) = true then none else bF F n f (i + 1) (bA F n i s) else some s
def bR (F : SYS) (n : Nat) (p0 : PP) : Option BST := bF F n 130 0 ([p0], [], [])
theorem iD (F : SYS) (p : PP) (l : List PP) (x : Nat) : bL F p l (x + 1) = eO (bL F p l x) (F p x).1 := by
  unfold bL; rw [List.range_succ, List.foldl_append]; rfl
theorem nY {α : Type} [DecidableEq α] (l : List α) (x : α) : ∃ k, eO l x = l ++ k := rB [x] l
theorem jI (F : SYS) (p : PP) (l : List PP) : ∀ x, ∃ k, bL F p l x = l ++ k
  | 0 => ⟨[], by simp [bL]⟩
  | x + 1 => by
    obtain ⟨k, e⟩ := jI F p l x
    obtain ⟨k', e'⟩ := nY (bL F p l x) (F p x).1
    exact ⟨k ++ k', by rw [iD, e', e, List.append_assoc]⟩
theorem na (F : SYS) (p : PP) (l : List PP) (x : Nat) : ∀ d, ∃ k, bL F p l (x + d) = bL F p l x ++ k
  | 0 => ⟨[], by simp⟩
  | d + 1 => by
    obtain ⟨k, e⟩ := na F p l x d
    obtain ⟨k', e'⟩ := nY (bL F p l (x + d)) (F p (x + d)).1
    exact ⟨k ++ k', by rw [← Nat.add_assoc, iD, e', e, List.append_assoc]⟩
theorem vP (F : SYS) (p : PP) (l : List PP) (x : Nat) : l.length ≤ (bL F p l x).length := by
  obtain ⟨k, e⟩ := jI F p l x
  rw [e, List.length_append]; omega
theorem lW (F : SYS) (p : PP) {l : List PP} (x : Nat) {i : Nat} (h : i < l.length) : (bL F p l x).getD i d0 = l.getD i d0 := by
  obtain ⟨k, e⟩ := jI F p l x
  rw [e]; simp [List.getD, List.getElem?_append_left h]
theorem vV (F : SYS) (p : PP) (l : List PP) {x y : Nat} (h : y < x) : (F p y).1 ∈ bL F p l x := by
  obtain ⟨k, e⟩ := na F p l (y + 1) (x - (y + 1))
  rw [show x = y + 1 + (x - (y + 1)) by omega, e, List.mem_append, iD, oq]
  exact .inl (.inr rfl)
theorem ox (F : SYS) (p : PP) {l : List PP} (h : l.Nodup) : ∀ x, (bL F p l x).Nodup
  | 0 => by simpa [bL] using h
  | x + 1 => by rw [iD]; exact rp (ox F p h x) _
theorem vh {α : Type} [DecidableEq α] (l : List α) (x : α) : pos (eO l x) x = pos l x := by
  by_cases h : x ∈ l
  · rw [fh h]
  · rw [eJ h, od h, qa h]
theorem wI (F : SYS) (p : PP) (l : List PP) {x y : Nat} (h : y < x) : pos (bL F p l x) (F p y).1 = pos (bL F p l y) (F p y).1 := by
  obtain ⟨k, e⟩ := na F p l (y + 1) (x - (y + 1))
  rw [show x = y + 1 + (x - (y + 1)) by omega, e, g9 _ (vV F p l (Nat.lt_succ_self y)), iD, vh]
structure BOK (F : SYS) (n : Nat) (p0 : PP) (i : Nat) (s : BST) : Prop where
  nd : s.1.Nodup
  le : s.1.length ≤ 128
  nl : s.2.1.length = i
  ol : s.2.2.length = i
  il : i ≤ s.1.length
  hd : s.1.getD 0 d0 = p0
  h0 : 0 < s.1.length
  nx : ∀ j, j < i → s.2.1.getD j [] = (List.range n).map fun x => (pos s.1 (F (s.1.getD j d0) x).1 : Int)
  ot : ∀ j, j < i → s.2.2.getD j [] = (List.range n).map fun x => (F (s.1.getD j d0) x).2
  cl : ∀ j x, j < i → x < n → (F (s.1.getD j d0) x).1 ∈ s.1
  bd : ∀ j x, j < i → x < n → (F (s.1.getD j d0) x).2 ≤ 1048576
theorem db {α : Type} {l : List α} {y d : α} {i : Nat} (h : i < l.length) : (l ++ [y]).getD i d = l.getD i d := by simp [List.getD, List.getElem?_append_left h]
theorem f0 {α : Type} {l : List α} {y d : α} {i : Nat} (h : i = l.length) : (l ++ [y]).getD i d = y := by subst h; simp [List.getD]
theorem uA {F : SYS} {p : PP} {l : List PP} {n : Nat} (h : (List.range n).any (bX F p l) = false) {y : Nat} (hy : y < n) : (bL F p l (y + 1)).length ≤ 128 ∧ (F p y).2 ≤ 1048576 := by
  rw [List.any_eq_false] at h
  have := h y (by simpa using hy)
  simp only [bX, Bool.not_eq_true, Bool.or_eq_false_iff, decide_eq_false_iff_not] at this
  omega
theorem wZ {F : SYS} {p : PP} {l : List PP} {n : Nat} (hl : l.length ≤ 128) (h : (List.range n).any (bX F p l) = false) : (bL F p l n).length ≤ 128 := by
  cases n with
  | zero => simpa [bL] using hl
  | succ n => exact (uA h (Nat.lt_succ_self n)).1
theorem BOK.step {F : SYS} {n : Nat} {p0 : PP} {i : Nat} {s : BST} (h : BOK F n p0 i s) (hi : i < s.1.length) (hb : (List.range n).any (bX F (s.1.getD i d0) s.1) = false) : BOK F n p0 (i + 1) (bA F n i s) where
  nd := ox F _ h.nd n
  le := wZ h.le hb
  nl := by simp [bA, h.nl]
  ol := by simp [bA, h.ol]
  il := Nat.le_trans hi (vP F _ s.1 n)
  hd := by simp only [bA]; rw [lW F _ n h.h0]; exact h.hd
  h0 := Nat.lt_of_lt_of_le h.h0 (vP F _ s.1 n)
  nx := fun j hj => by
    simp only [bA]
    rw [lW F _ n (show j < s.1.length by omega)]
    by_cases e : j = i
    · rw [f0 (by rw [h.nl, e]), e]
      exact List.map_congr_left fun x hx => by rw [wI F _ s.1 (List.mem_range.1 hx)]
    · have hji : j < i := by omega
      rw [db (by rw [h.nl]; exact hji), h.nx j hji]
      refine List.map_congr_left fun x hx => ?_
      obtain ⟨k, ek⟩ := jI F (s.1.getD i d0) s.1 n
      rw [ek, g9 _ (h.cl j x hji (List.mem_range.1 hx))]
  ot := fun j hj => by
    simp only [bA]
    rw [lW F _ n (show j < s.1.length by omega)]
    by_cases e : j = i
    · rw [f0 (by rw [h.ol, e]), e]; rfl
    · rw [db (by rw [h.ol]; omega), h.ot j (by omega)]
  cl := fun j x hj hx => by
    simp only [bA]
    rw [lW F _ n (show j < s.1.length by omega)]
    by_cases e : j = i
    · rw [e]; exact vV F _ s.1 hx
    · obtain ⟨k, ek⟩ := jI F (s.1.getD i d0) s.1 n
      rw [ek, List.mem_append]
      exact .inl (h.cl j x (by omega) hx)
  bd := fun j x hj hx => by
    simp only [bA]
    rw [lW F _ n (show j < s.1.length by omega)]
    by_cases e : j = i
    · rw [e]; exact (uA hb hx).2
    · exact h.bd j x (by omega) hx
/-! Runs. -/
section
variable {F : SYS} {n : Nat} {p0 : PP} {s : BST} (h : bR F n p0 = some s)
include h
end
/-! For the walks. -/
end Go.AV
namespace Go.AV
open Nat renaming reduceEqDiff → J, reduceAdd → E, reduceLeDiff → U, reduceLT → Z, reduceMul → V, reduceSub → Y
open List renaming set_cons_zero → aw, set_cons_succ → au
/-plain-/
/-! Breadth-first search through pairs, with words. -/
abbrev STP := PP → Nat → PP
abbrev W3 := PP × List Int
def w30 : W3 := (d0, [])
def dIn (l : List W3) (q : PP) : Bool := l.any fun f => decide (f.1 = q)
def dSt (A : STP) (e : W3) (l : List W3) (x : Nat) : List W3 := if dIn l (A e.1 x) = true then l else l ++ [(A e.1 x, e.2 ++ [(x : Int)])]
def gk (A : STP) (e : W3) (l : List W3) (x : Nat) : List W3 := (List.range x).foldl (dSt A e) l
def wQ (A : STP) (n : Nat) : Nat → Nat → List W3 → List W3
  | 0, _, l => l
  | f + 1, i, l => if i < l.length then wQ A n f (i + 1) (gk A (l.getD i w30) l n) else l
theorem pM {l : List W3} {q : PP} : dIn l q = true ↔ q ∈ l.map Prod.fst := by
  unfold dIn
  rw [List.any_eq_true, List.mem_map]
  constructor
  · rintro ⟨e, he, h⟩; exact ⟨e, he, by simpa using h⟩
  · rintro ⟨e, he, h⟩; exact ⟨e, he, by simpa using h⟩
theorem pD {A : STP} {e : W3} {l : List W3} {x : Nat} (h : A e.1 x ∈ l.map Prod.fst) : dSt A e l x = l := if_pos (pM.2 h)
theorem mY {A : STP} {e : W3} {l : List W3} {x : Nat} (h : A e.1 x ∉ l.map Prod.fst) : dSt A e l x = l ++ [(A e.1 x, e.2 ++ [(x : Int)])] := if_neg fun k => h (pM.1 k)
theorem gR (A : STP) (e : W3) (l : List W3) (x : Nat) : gk A e l (x + 1) = dSt A e (gk A e l x) x := by
  unfold gk; rw [List.range_succ, List.foldl_append]; rfl
theorem uo (A : STP) (e : W3) (l : List W3) (x : Nat) : ∃ k, dSt A e l x = l ++ k := by
  unfold dSt; split
  · exact ⟨[], by simp⟩
  · exact ⟨_, rfl⟩
theorem lX (A : STP) (e : W3) (l : List W3) (x : Nat) : ∀ d, ∃ k, gk A e l (x + d) = gk A e l x ++ k
  | 0 => ⟨[], by simp⟩
  | d + 1 => by
    obtain ⟨k, h⟩ := lX A e l x d
    obtain ⟨k', h'⟩ := uo A e (gk A e l (x + d)) (x + d)
    exact ⟨k ++ k', by rw [← Nat.add_assoc, gR, h', h, List.append_assoc]⟩
theorem tD (A : STP) (e : W3) (l : List W3) (x : Nat) : ∃ k, gk A e l x = l ++ k := by
  obtain ⟨k, h⟩ := lX A e l 0 x
  rw [Nat.zero_add] at h
  exact ⟨k, h⟩
def inR (n1 n2 : Nat) (q : PP) : Prop := (0 ≤ q.1 ∧ q.1 < n1) ∧ 0 ≤ q.2 ∧ q.2 < n2
structure DW (n1 n2 : Nat) (l : List W3) : Prop where
  nd : (l.map Prod.fst).Nodup
  rg : ∀ e, e ∈ l → inR n1 n2 e.1
  wl : ∀ e, e ∈ l → e.2.length < l.length
theorem pg {l : List W3} {i : Nat} (h : i < l.length) : l.getD i w30 ∈ l := by simp [List.getD, h]
theorem DW.le {n1 n2 : Nat} {l : List W3} (h : DW n1 n2 l) : l.length ≤ n1 * n2 := by
  have hnd : ((l.map Prod.fst).map fun q : PP => q.1 * (n2 : Int) + q.2).Nodup := by
    rw [List.nodup_iff_pairwise_ne, List.pairwise_map]
    refine List.Pairwise.imp_of_mem (fun {a b} ha hb hab => ?_) (List.nodup_iff_pairwise_ne.1 h.nd)
    intro e
    obtain ⟨ea, hea, rfl⟩ := List.mem_map.1 ha
    obtain ⟨eb, heb, rfl⟩ := List.mem_map.1 hb
    have := o6 (h.rg ea hea).2 (h.rg eb heb).2 e
    exact hab (Prod.ext this.1 this.2)
  have := gJ (n1 * n2) _ hnd (fun x hx => by
    obtain ⟨q, hq, rfl⟩ := List.mem_map.1 hx
    obtain ⟨e, he, rfl⟩ := List.mem_map.1 hq
    have hr := h.rg e he
    have := qc hr.1 hr.2
    rw [Int.natCast_mul]; exact this)
  simpa using this
theorem DW.step {n1 n2 n : Nat} {A : STP} (hA : ∀ q, inR n1 n2 q → ∀ x, x < n → inR n1 n2 (A q x)) {l : List W3} (h : DW n1 n2 l) {e : W3} (he : e ∈ l) {x : Nat} (hx : x < n) : DW n1 n2 (dSt A e l x) := by
  by_cases hin : A e.1 x ∈ l.map Prod.fst
  · rw [pD hin]; exact h
  · rw [mY hin]
    refine ⟨?_, fun f hf => ?_, fun f hf => ?_⟩
    · rw [List.map_append, List.map_cons, List.map_nil, List.nodup_append]
      refine ⟨h.nd, by simp, fun a ha b hb => ?_⟩
      simp at hb; subst hb
      intro hab; subst hab; exact hin ha
    · rcases List.mem_append.1 hf with hf | hf
      · exact h.rg f hf
      · simp at hf; subst hf; exact hA _ (h.rg e he) x hx
    · rw [List.length_append, List.length_singleton]
      rcases List.mem_append.1 hf with hf | hf
      · have := h.wl f hf; omega
      · simp at hf; subst hf
        have := h.wl e he
        simp only [List.length_append, List.length_singleton]; omega
theorem DW.row {n1 n2 n : Nat} {A : STP} (hA : ∀ q, inR n1 n2 q → ∀ x, x < n → inR n1 n2 (A q x)) {l : List W3} (h : DW n1 n2 l) {i : Nat} (hi : i < l.length) : ∀ x, x ≤ n → DW n1 n2 (gk A (l.getD i w30) l x)
  | 0, _ => by simpa [gk] using h
  | x + 1, hx => by
    rw [gR]
    refine (h.row hA hi x (by omega)).step hA ?_ (by omega)
    obtain ⟨k, e⟩ := tD A (l.getD i w30) l x
    rw [e]; exact List.mem_append.2 (.inl (pg hi))
/-! The search for a pair. -/
def dFi (g : PP → Bool) (l : List W3) : Option Nat := l.findIdx? fun e => g e.1
def dQ (g : PP → Bool) (l : List W3) : List W3 := match dFi g l with | some k => l.take (k + 1) | none => l
def dB (g : PP → Bool) (l : List W3) : Bool := (dFi g l).isSome
/-! The numbers of pairs. -/
end Go.AV
namespace Go.AV
open Nat renaming reduceEqDiff → J, reduceAdd → E, reduceLeDiff → U, reduceLT → Z, reduceMul → V, reduceSub → Y
open List renaming set_cons_zero → aw, set_cons_succ → au
/-plain-/
def uK (A : STP) (n N : Nat) (p : PP) : List W3 := wQ A n (N + 1) 0 [(p, [])]
end Go.AV
namespace Go.AV
open Nat renaming reduceEqDiff → J, reduceAdd → E, reduceLeDiff → U, reduceLT → Z, reduceMul → V, reduceSub → Y
open List renaming set_cons_zero → aw, set_cons_succ → au
/-plain-/
def dRw (A : STP) (n : Nat) (L : List W3) (i x : Nat) : List Int := (List.range x).map fun y => (pos (L.map Prod.fst) (A (L.getD i w30).1 y) : Int)
def dBn (A : STP) (G : PP → Bool) (n : Nat) (L : List W3) : Dfa := ⟨n, 0, (List.range L.length).map fun i => dRw A n L i n, L.map fun e => G e.1⟩
def dBE (L : List W3) : Int := if 128 < L.length then 11 else 0
def dBD (A : STP) (G : PP → Bool) (n : Nat) (L : List W3) : Dfa := if 128 < L.length then t7 else dBn A G n L
end Go.AV
namespace Go.AV
open Nat renaming reduceEqDiff → J, reduceAdd → E, reduceLeDiff → U, reduceLT → Z, reduceMul → V, reduceSub → Y
open List renaming set_cons_zero → aw, set_cons_succ → au
/-plain-/
end Go.AV
namespace Go.AV
open Nat renaming reduceEqDiff → J, reduceAdd → E, reduceLeDiff → U, reduceLT → Z, reduceMul → V, reduceSub → Y
open List renaming set_cons_zero → aw, set_cons_succ → au
/-plain-/
/-! The search through classes. -/
def hF (h : PP → PP) (l : List W3) : List PP := l.map fun e => h e.1
structure HOM (A B : STP) (n : Nat) (I : PP → Prop) (h : PP → PP) : Prop where
  cl : ∀ p, I p → ∀ x, x < n → I (A p x)
  eq : ∀ p, I p → ∀ x, x < n → B (h p) x = h (A p x)
end Go.AV
namespace Go.Proofs.YtceafldjjedhcaaDoor
open Go Go.AV
open Nat renaming reduceEqDiff → J, reduceAdd → E, reduceLeDiff → U, reduceLT → Z, reduceMul → V, reduceSub → Y
open List renaming set_cons_zero → aw, set_cons_succ → au
set_option maxRecDepth 100000 in
theorem gp (e : Int) : cq Tryd.prog 19 [.one (.int .i64 e)] (.tup [.agg [.int .i64 0, .int .i64 0, .nils, .nils], .agg [.nils, .int .i64 0, .int .i64 0], .one (.bool false), .one (.int .i64 e)]) := by
 refine bt Tryd.func19 rfl (by kernel_rfl) (Nat.le_of_ble_eq_true rfl) rfl fun C hP hN hB => ?_
 replace hN : C.N = 9 := hN
 simp only [ae, E]
 refine ah fun K1 hK1 => ?_
 refine ao hP hN rfl ?_
 iterate 4 (refine ag rfl fun K0 aa => ?_; simp only [zE, op1, ev, lkp, am, ak, cC, reduceCtorEq, J, E, U, Z, V, Y, Tryd.st24, Tryd.st36, Tryd.td24, Tryd.td28, Tryd.td36, Tryd.td4]; (repeat refine And.intro (by first | omega | assumption | exact rfl) ?_); (first | refine aa _ ?_ | refine Or.inl (aa _ ?_)); clear aa K0; simp only [put, app, af, aj, zE, zS, E])
 refine aq ?_
 refine hK1 _ ?_; clear hK1; refine ai [0, 2, 3, 4, 5] ?_; simp only [ad, lkp, zE, reduceCtorEq, J, ae, E]
 refine ah fun K2 hK2 => ?_
 refine ao hP hN rfl ?_
 iterate 7 (refine ag rfl fun K0 aa => ?_; simp only [zE, op1, ev, lkp, am, ak, cF, bl, aR, ax, bJ, Nat.mul_one, aM, acs, Ty.size, Ty.dflt, zG, reduceCtorEq, J, E, U, Z, V, Y, Tryd.st24, Tryd.st36, Tryd.td24, Tryd.td28, Tryd.td36, Tryd.td4]; (repeat refine And.intro (by first | omega | assumption | exact rfl) ?_); (first | refine aa _ ?_ | refine Or.inl (aa _ ?_)); clear aa K0; simp only [put, app, af, aj, zE, zS, E])
 refine aq ?_
 refine hK2 _ ?_; clear hK2; refine ai [0, 2, 3, 4, 5] ?_; simp only [ad, lkp, zE, reduceCtorEq, J, ae, E]
 refine aU ?_
 refine ⟨by first | exact .inl rfl | exact .inr rfl, _, rfl, ?_⟩; simp only [fzV, fz1, fzC, List.map_cons, List.map_nil, ad, lkp, zE, reduceCtorEq, J, ae, E]
 refine VLE.of_eq ?_
 rfl
end Go.Proofs.YtceafldjjedhcaaDoor
