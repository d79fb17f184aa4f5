/- Contracts of functions of this seat, each out of a walk through its code, and plain facts on what they compute. Conditions: those that each theorem names. -/
import Derived.Test.YtmfkpljjhiglpaaGreatDoorW01
set_option linter.unusedSimpArgs false
set_option linter.unusedVariables false
set_option maxRecDepth 100000
namespace Go.AV
open Nat renaming reduceEqDiff → V, reduceAdd → O, reduceLeDiff → Z, reduceLT → ad, reduceMul → ab, reduceSub → aa
open List renaming set_cons_zero → bK, set_cons_succ → ba, getD_cons_zero → cM, length_append → aq, map_cons → aS, cons_append → am, map_nil → bM, length_cons → ak, nil_append → ar, take_succ_cons → bY, length_nil → aw, length_map → c0, length_replicate → aL, take_length → aD, mem_cons_self → aT, mem_cons_of_mem → aI
open Int renaming toNat_natCast → aN
/-plain-/
def pT (S I : TypeId) (b k s : Nat) (x y : List Int) : List AO := [.row (.int .i64) I k x, .row (.int .i64) I k y, .rowc S 1 0 [.row (b + 4 * s) k], .rowc S 1 0 [.row (b + 4 * s + 1) k]]
def cA (S I : TypeId) (b k : Nat) (nx ot : List (List Int)) : Nat → List AO
  | 0 => []
  | n + 1 => cA S I b k nx ot n ++ pT S I b k n (nx.getD n []) (ot.getD n [])
def cP (b k n : Nat) : List AC := (List.range n).map fun s => .row (b + 4 * s) k
theorem da (b k n : Nat) : (cP b k n).length = n := by unfold cP; simp
theorem oA {b k n s : Nat} (h : s < n) : (cP b k n).getD s .junk = .row (b + 4 * s) k := by unfold cP; simp [List.getD, h]
theorem nc (b k n : Nat) : cP b k (n + 1) = cP b k n ++ [.row (b + 4 * n) k] := by unfold cP; rw [List.range_succ, List.map_append]; rfl
section
variable {S I : TypeId} {b k : Nat} {nx ot : List (List Int)}
theorem bD : ∀ n, (cA S I b k nx ot n).length = 4 * n
  | 0 => rfl
  | n + 1 => by rw [cA, aq, bD n]; simp [pT]; omega
theorem kH : ∀ {n s j : Nat}, s < n → j < 4 → (cA S I b k nx ot n)[4 * s + j]? = (pT S I b k s (nx.getD s []) (ot.getD s []))[j]?
  | 0, s, j, h, _ => by omega
  | n + 1, s, j, h, hj => by
    rw [cA]
    by_cases e : s = n
    · subst e
      rw [List.getElem?_append_right (by rw [bD]; omega), bD, Nat.add_sub_cancel_left]
    · rw [List.getElem?_append_left (by rw [bD]; omega)]
      exact kH (by omega) hj
theorem fG {nx' ot' : List (List Int)} : ∀ {n : Nat}, (∀ s, s < n → nx.getD s [] = nx'.getD s []) → (∀ s, s < n → ot.getD s [] = ot'.getD s []) → cA S I b k nx ot n = cA S I b k nx' ot' n
  | 0, _, _ => rfl
  | n + 1, h1, h2 => by rw [cA, cA, fG (fun s hs => h1 s (by omega)) (fun s hs => h2 s (by omega)), h1 n (by omega), h2 n (by omega)]
theorem eB {xs : List (List Int)} {s i : Nat} {x : List Int} : (xs.set s x).getD i [] = if i = s ∧ s < xs.length then x else xs.getD i [] := by
  simp only [List.getD, List.getElem?_set]
  by_cases e : s = i
  · subst e
    by_cases h : s < xs.length
    · simp [h]
    · simp [h]
  · simp [e, Ne.symm e]
theorem lj : ∀ {n s : Nat} (x : List Int), s < n → n ≤ nx.length → (cA S I b k nx ot n).set (4 * s) (.row (.int .i64) I k x) = cA S I b k (nx.set s x) ot n
  | 0, s, x, h, _ => by omega
  | n + 1, s, x, h, hn => by
    rw [cA, cA]
    by_cases e : s = n
    · subst e
      rw [List.set_append, if_neg (by rw [bD]; omega), bD, Nat.sub_self]
      rw [fG (nx := nx) (nx' := nx.set s x) (ot' := ot) (fun i hi => by rw [eB, if_neg (by omega)]) (fun _ _ => rfl)]
      rw [eB, if_pos ⟨rfl, by omega⟩]; rfl
    · rw [List.set_append, if_pos (by rw [bD]; omega), lj x (by omega) (by omega)]
      rw [eB, if_neg (by omega)]
theorem lI : ∀ {n s : Nat} (x : List Int), s < n → n ≤ ot.length → (cA S I b k nx ot n).set (4 * s + 1) (.row (.int .i64) I k x) = cA S I b k nx (ot.set s x) n
  | 0, s, x, h, _ => by omega
  | n + 1, s, x, h, hn => by
    rw [cA, cA]
    by_cases e : s = n
    · subst e
      rw [List.set_append, if_neg (by rw [bD]; omega), bD, Nat.add_sub_cancel_left]
      rw [fG (ot := ot) (ot' := ot.set s x) (nx' := nx) (fun _ _ => rfl) (fun i hi => by rw [eB, if_neg (by omega)])]
      rw [eB (xs := ot), if_pos ⟨rfl, by omega⟩]; rfl
    · rw [List.set_append, if_pos (by rw [bD]; omega), lI x (by omega) (by omega)]
      rw [eB (xs := ot), if_neg (by omega)]
end
def mlQ (M : TypeId) (b k n : Nat) : AO := .vars M [.int .i64 (k : Int), .int .i64 0, .rwc (b + 2) n, .rwc (b + 3) n]
def eI (M S I : TypeId) (b k n : Nat) (nx ot : List (List Int)) : List AO :=
  mlQ M b k n :: mlQ M b k n :: .rowc S 1 n (cP (b + 4) k n) :: .rowc S 1 n (cP (b + 5) k n) :: cA S I (b + 4) k nx ot n
def bP (L0 : List AO) (M S I : TypeId) (k s : Nat) (cr cv : List AC) (cn co : AO) (B : List AO) : List AO := L0 ++ .vars M cr :: .vars M cv :: cn :: co :: (cA S I (L0.length + 4) k (cI s k) (cI s k) s ++ B)
section
variable {L0 : List AO} {M S I : TypeId} {k s : Nat} {cr cv : List AC} {cn co : AO} {B : List AO}
theorem dp : (bP L0 M S I k s cr cv cn co B).length = L0.length + 4 + 4 * s + B.length := by unfold bP; simp only [aq, ak, bD]; omega
theorem fU (C : List AO) : bP L0 M S I k s cr cv cn co B ++ C = bP L0 M S I k s cr cv cn co (B ++ C) := by unfold bP; simp [List.append_assoc]
theorem M_i {i : Nat} {X : List AO} (h : L0.length ≤ i) : (L0 ++ X)[i]? = X[i - L0.length]? := List.getElem?_append_right h
theorem M_0 : (bP L0 M S I k s cr cv cn co B)[L0.length]? = some (.vars M cr) := by unfold bP; rw [M_i (Nat.le_refl _), Nat.sub_self]; rfl
theorem M_1 : (bP L0 M S I k s cr cv cn co B)[L0.length + 1]? = some (.vars M cv) := by unfold bP; rw [M_i (by omega), Nat.add_sub_cancel_left]; rfl
theorem M_2 : (bP L0 M S I k s cr cv cn co B)[L0.length + 2]? = some cn := by unfold bP; rw [M_i (by omega), Nat.add_sub_cancel_left]; rfl
theorem M_3 : (bP L0 M S I k s cr cv cn co B)[L0.length + 3]? = some co := by unfold bP; rw [M_i (by omega), Nat.add_sub_cancel_left]; rfl
theorem M_B (i : Nat) : (bP L0 M S I k s cr cv cn co B)[L0.length + 4 + 4 * s + i]? = B[i]? := by
  unfold bP
  rw [M_i (by omega), show L0.length + 4 + 4 * s + i - L0.length = (4 * s + i) + 1 + 1 + 1 + 1 by omega]
  simp only [List.getElem?_cons_succ]
  rw [List.getElem?_append_right (by rw [bD]; omega), bD, Nat.add_sub_cancel_left]
theorem qR {x : AO} {C : List AO} : (bP L0 M S I k s cr cv cn co (x :: C))[L0.length + 4 + 4 * s]? = some x := M_B (B := x :: C) 0
theorem r8 {x y : AO} {C : List AO} : (bP L0 M S I k s cr cv cn co (x :: y :: C))[L0.length + 4 + 4 * s + 1]? = some y := M_B (B := x :: y :: C) 1
theorem sr {x y z : AO} {C : List AO} : (bP L0 M S I k s cr cv cn co (x :: y :: z :: C))[L0.length + 4 + 4 * s + 2]? = some z := M_B (B := x :: y :: z :: C) 2
theorem sN {x y z u : AO} {C : List AO} : (bP L0 M S I k s cr cv cn co (x :: y :: z :: u :: C))[L0.length + 4 + 4 * s + 3]? = some u := M_B (B := x :: y :: z :: u :: C) 3
theorem M_s {i : Nat} {X : List AO} (x : AO) (h : L0.length ≤ i) : (L0 ++ X).set i x = L0 ++ X.set (i - L0.length) x := by rw [List.set_append, if_neg (by omega)]
theorem xf (c : List AC) : (bP L0 M S I k s cr cv cn co B).set L0.length (.vars M c) = bP L0 M S I k s c cv cn co B := by unfold bP; rw [M_s _ (Nat.le_refl _), Nat.sub_self]; rfl
theorem lO (c : List AC) : (bP L0 M S I k s cr cv cn co B).set (L0.length + 1) (.vars M c) = bP L0 M S I k s cr c cn co B := by unfold bP; rw [M_s _ (by omega), Nat.add_sub_cancel_left]; rfl
theorem sD (c : AO) : (bP L0 M S I k s cr cv cn co B).set (L0.length + 2) c = bP L0 M S I k s cr cv c co B := by unfold bP; rw [M_s _ (by omega), Nat.add_sub_cancel_left]; rfl
theorem sq (c : AO) : (bP L0 M S I k s cr cv cn co B).set (L0.length + 3) c = bP L0 M S I k s cr cv cn c B := by unfold bP; rw [M_s _ (by omega), Nat.add_sub_cancel_left]; rfl
theorem wN (i : Nat) (x : AO) : (bP L0 M S I k s cr cv cn co B).set (L0.length + 4 + 4 * s + i) x = bP L0 M S I k s cr cv cn co (B.set i x) := by
  unfold bP
  rw [M_s _ (by omega), show L0.length + 4 + 4 * s + i - L0.length = (4 * s + i) + 1 + 1 + 1 + 1 by omega]
  simp only [ba]
  rw [List.set_append, if_neg (by rw [bD]; omega), bD, Nat.add_sub_cancel_left]
theorem wY {y : AO} {C : List AO} (x : AO) : (bP L0 M S I k s cr cv cn co (y :: C)).set (L0.length + 4 + 4 * s) x = bP L0 M S I k s cr cv cn co (x :: C) := wN (B := y :: C) 0 x
theorem wT {y z : AO} {C : List AO} (x : AO) : (bP L0 M S I k s cr cv cn co (y :: z :: C)).set (L0.length + 4 + 4 * s + 1) x = bP L0 M S I k s cr cv cn co (y :: x :: C) := wN (B := y :: z :: C) 1 x
theorem wh : bP L0 M S I k s cr cv cn co (pT S I (L0.length + 4) k s (List.replicate k (-1)) (List.replicate k (-1))) = bP L0 M S I k (s + 1) cr cv cn co [] := by
  have h1 : ∀ n i : Nat, i < n → (cI n k).getD i [] = List.replicate k (-1) := fun n i h => by unfold cI; simp [List.getD, h]
  unfold bP
  rw [cA, List.append_nil, h1 _ _ (Nat.lt_succ_self s)]
  rw [fG (nx := cI (s + 1) k) (nx' := cI s k) (ot := cI (s + 1) k) (ot' := cI s k) (n := s) (fun i hi => by rw [h1 _ _ hi, h1 _ _ (by omega)]) (fun i hi => by rw [h1 _ _ hi, h1 _ _ (by omega)])]
theorem xb : bP L0 M S I k s [.int .i64 (k : Int), .int .i64 0, .rwc (L0.length + 2) s, .rwc (L0.length + 3) s] [.int .i64 (k : Int), .int .i64 0, .rwc (L0.length + 2) s, .rwc (L0.length + 3) s] (.rowc S 1 s (cP (L0.length + 4) k s)) (.rowc S 1 s (cP (L0.length + 5) k s)) [] = L0 ++ eI M S I L0.length k s (cI s k) (cI s k) := by
  unfold bP eI mlQ; rw [List.append_nil]
theorem m9 : cP (L0.length + 4) k s ++ [.row (L0.length + 4 + 4 * s) k] = cP (L0.length + 4) k (s + 1) := (nc ..).symm
theorem me : cP (L0.length + 5) k s ++ [.row (L0.length + 4 + 4 * s + 1) k] = cP (L0.length + 5) k (s + 1) := by rw [nc, show L0.length + 5 + 4 * s = L0.length + 4 + 4 * s + 1 by omega]
theorem xy {x : AO} {X : List AO} : (L0 ++ x :: X)[L0.length]? = some x := by rw [M_i (Nat.le_refl _), Nat.sub_self]; rfl
theorem vz {x y : AO} {X : List AO} : (L0 ++ x :: y :: X)[L0.length + 1]? = some y := by rw [M_i (by omega), Nat.add_sub_cancel_left]; rfl
theorem rD {x y z : AO} {X : List AO} : (L0 ++ x :: y :: X).set (L0.length + 1) z = L0 ++ x :: z :: X := by rw [M_s _ (by omega), Nat.add_sub_cancel_left]; rfl
end
/-plain-/
def rfC (r : RS) (a b : AC) : List AC := [.int .i64 (r.rd : Int), .list .str r.sts, .str r.nm, .list .str r.ins, .list .str r.outs, .int .i64 r.inp, .int .i64 r.st, a, b]
def hdQ (X : AO) (R M S I : TypeId) (r : RS) (a b : AC) (U : List AO) (w : List Bs) : List AO :=
  if ¬ w.getD 0 [] = kwd r.rd ∨ ((r.rd = 0 ∨ r.rd = 4) ∧ ¬ w.length = 2) then X :: .vars R (rfC r a b) :: U
  else if r.rd = 0 then X :: .vars R (rfC (if aY (w.getD 1 []) = true then { r with nm := w.getD 1 [] } else r) a b) :: U
  else if r.rd = 1 then X :: .vars R (rfC { r with ins := w.drop 1 } a b) :: U
  else if r.rd = 2 then X :: .vars R (rfC { r with outs := w.drop 1 } a b) :: U
  else if r.rd = 3 then X :: .vars R (rfC { r with sts := w.drop 1, inp := r.ins.length, st := 0 } (.rwc (U.length + 4) (min (w.drop 1).length 129)) (.rwc (U.length + 5) (min (w.drop 1).length 129))) :: (U ++ eI M S I (U.length + 2) r.ins.length (min (w.drop 1).length 129) (cI (min (w.drop 1).length 129) r.ins.length) (cI (min (w.drop 1).length 129) r.ins.length))
  else X :: .vars R (rfC (if w.getD 1 [] ∈ r.sts then { r with st := pos r.sts (w.getD 1 []) } else r) a b) :: U
section
variable {X : AO} {R M S I : TypeId} {r : RS} {a b : AC} {U : List AO} {w : List Bs}
theorem dX {x y : AO} : (x :: y :: U).length ≤ (hdQ X R M S I r a b U w).length := by
  unfold hdQ
  split
  · exact Nat.le_refl _
  · split
    · exact Nat.le_refl _
    · split
      · exact Nat.le_refl _
      · split
        · exact Nat.le_refl _
        · split
          · simp only [ak, aq]; omega
          · exact Nat.le_refl _
theorem lF (h : ¬ w.getD 0 [] = kwd r.rd ∨ ((r.rd : Int) = 0 ∨ (r.rd : Int) = 4) ∧ ¬ (w.length : Int) = 2) : (aU r w).2 = 5 ∧ hdQ X R M S I r a b U w = X :: .vars R (rfC r a b) :: U := by
  have h' : ¬ w.getD 0 [] = kwd r.rd ∨ (r.rd = 0 ∨ r.rd = 4) ∧ ¬ w.length = 2 := by
    rcases h with h | ⟨h1, h2⟩
    · exact .inl h
    · exact .inr ⟨by omega, by omega⟩
  have e : aU r w = (r, 5) := if_pos h'
  exact ⟨by rw [e], if_pos h'⟩
theorem jq (h : w.getD 0 [] = kwd r.rd ∧ (¬ (r.rd : Int) = 0 ∧ ¬ (r.rd : Int) = 4 ∨ (w.length : Int) = 2)) : hdQ X R M S I r a b U w =
  if r.rd = 0 then X :: .vars R (rfC (if aY (w.getD 1 []) = true then { r with nm := w.getD 1 [] } else r) a b) :: U
  else if r.rd = 1 then X :: .vars R (rfC { r with ins := w.drop 1 } a b) :: U
  else if r.rd = 2 then X :: .vars R (rfC { r with outs := w.drop 1 } a b) :: U
  else if r.rd = 3 then X :: .vars R (rfC { r with sts := w.drop 1, inp := r.ins.length, st := 0 } (.rwc (U.length + 4) (min (w.drop 1).length 129)) (.rwc (U.length + 5) (min (w.drop 1).length 129))) :: (U ++ eI M S I (U.length + 2) r.ins.length (min (w.drop 1).length 129) (cI (min (w.drop 1).length 129) r.ins.length) (cI (min (w.drop 1).length 129) r.ins.length))
  else X :: .vars R (rfC (if w.getD 1 [] ∈ r.sts then { r with st := pos r.sts (w.getD 1 []) } else r) a b) :: U := by
  unfold hdQ
  rw [if_neg]
  rintro (q | q)
  · exact q h.1
  · omega
theorem ia (h : w.getD 0 [] = kwd r.rd ∧ (¬ (r.rd : Int) = 0 ∧ ¬ (r.rd : Int) = 4 ∨ (w.length : Int) = 2)) (h0 : r.rd = 0) (hb : aY (w.getD 1 []) = false) : (aU r w).2 = 9 ∧ hdQ X R M S I r a b U w = X :: .vars R (rfC r a b) :: U := by
  refine ⟨?_, ?_⟩
  · rw [cV h, if_pos h0]
    show (if aY (w.getD 1 []) = true then (0 : Int) else 9) = 9
    rw [if_neg (by rw [hb]; decide)]
  · rw [jq h, if_pos h0]
    rw [if_neg (by rw [hb]; decide)]
theorem iu (h : w.getD 0 [] = kwd r.rd ∧ (¬ (r.rd : Int) = 0 ∧ ¬ (r.rd : Int) = 4 ∨ (w.length : Int) = 2)) (h0 : r.rd = 0) (hb : aY (w.getD 1 []) = true) : (aU r w).2 = 0 ∧ hdQ X R M S I r a b U w = X :: .vars R (rfC { r with nm := w.getD 1 [] } a b) :: U := by
  refine ⟨?_, ?_⟩
  · rw [cV h, if_pos h0]
    show (if aY (w.getD 1 []) = true then (0 : Int) else 9) = 0
    rw [if_pos hb]
  · rw [jq h, if_pos h0]
    rw [if_pos hb]
theorem lA (h : w.getD 0 [] = kwd r.rd ∧ (¬ (r.rd : Int) = 0 ∧ ¬ (r.rd : Int) = 4 ∨ (w.length : Int) = 2)) (h0 : r.rd = 1) : (aU r w).2 = alE (w.drop 1) ∧ hdQ X R M S I r a b U w = X :: .vars R (rfC { r with ins := w.drop 1 } a b) :: U := by
  refine ⟨?_, ?_⟩
  · rw [cV h, if_neg (by omega), if_pos h0]
  · rw [jq h, if_neg (by omega), if_pos h0]
theorem lE (h : w.getD 0 [] = kwd r.rd ∧ (¬ (r.rd : Int) = 0 ∧ ¬ (r.rd : Int) = 4 ∨ (w.length : Int) = 2)) (h0 : r.rd = 2) : (aU r w).2 = alE (w.drop 1) ∧ hdQ X R M S I r a b U w = X :: .vars R (rfC { r with outs := w.drop 1 } a b) :: U := by
  refine ⟨?_, ?_⟩
  · rw [cV h, if_neg (by omega), if_neg (by omega), if_pos h0]
  · rw [jq h, if_neg (by omega), if_neg (by omega), if_pos h0]
theorem lw (h : w.getD 0 [] = kwd r.rd ∧ (¬ (r.rd : Int) = 0 ∧ ¬ (r.rd : Int) = 4 ∨ (w.length : Int) = 2)) (h0 : r.rd = 3) : (aU r w).2 = dw (w.drop 1) ∧ hdQ X R M S I r a b U w = X :: .vars R (rfC { r with sts := w.drop 1, inp := r.ins.length, st := 0 } (.rwc (U.length + 4) (min (w.drop 1).length 129)) (.rwc (U.length + 5) (min (w.drop 1).length 129))) :: (U ++ eI M S I (U.length + 2) r.ins.length (min (w.drop 1).length 129) (cI (min (w.drop 1).length 129) r.ins.length) (cI (min (w.drop 1).length 129) r.ins.length)) := by
  refine ⟨?_, ?_⟩
  · rw [cV h, if_neg (by omega), if_neg (by omega), if_neg (by omega), if_pos h0]
    unfold gR
    split
    · rename_i e; exact e.symm
    · rfl
  · rw [jq h, if_neg (by omega), if_neg (by omega), if_neg (by omega), if_pos h0]
theorem ig (h : w.getD 0 [] = kwd r.rd ∧ (¬ (r.rd : Int) = 0 ∧ ¬ (r.rd : Int) = 4 ∨ (w.length : Int) = 2)) (h0 : r.rd = 4) (hm : w.getD 1 [] ∉ r.sts) : (aU r w).2 = 8 ∧ hdQ X R M S I r a b U w = X :: .vars R (rfC r a b) :: U := by
  refine ⟨?_, ?_⟩
  · rw [cV h, if_neg (by omega), if_neg (by omega), if_neg (by omega), if_neg (by omega)]
    show (if ixB r.sts (w.getD 1 []) < 0 then (8 : Int) else 0) = 8
    unfold ixB; rw [if_neg hm, if_pos (by decide)]
  · rw [jq h, if_neg (by omega), if_neg (by omega), if_neg (by omega), if_neg (by omega)]
    rw [if_neg hm]
theorem hZ (h : w.getD 0 [] = kwd r.rd ∧ (¬ (r.rd : Int) = 0 ∧ ¬ (r.rd : Int) = 4 ∨ (w.length : Int) = 2)) (h0 : r.rd = 4) (hm : w.getD 1 [] ∈ r.sts) : (aU r w).2 = 0 ∧ hdQ X R M S I r a b U w = X :: .vars R (rfC { r with st := pos r.sts (w.getD 1 []) } a b) :: U := by
  refine ⟨?_, ?_⟩
  · rw [cV h, if_neg (by omega), if_neg (by omega), if_neg (by omega), if_neg (by omega)]
    show (if ixB r.sts (w.getD 1 []) < 0 then (8 : Int) else 0) = 0
    unfold ixB; rw [if_pos hm, if_neg (by omega)]
  · rw [jq h, if_neg (by omega), if_neg (by omega), if_neg (by omega), if_neg (by omega)]
    rw [if_pos hm]
end
def fA (r : RS) : AC := if r.tb = true then .rwc 4 r.nx.length else .nils
def fB (r : RS) : AC := if r.tb = true then .rwc 5 r.nx.length else .nils
def fT (M S I : TypeId) (r : RS) : List AO := if r.tb = true then eI M S I 2 r.ins.length r.nx.length r.nx r.ot else []
def SF (X : AO) (R M S I : TypeId) (r : RS) : List AO := X :: .vars R (rfC r (fA r) (fB r)) :: fT M S I r
def FT (X : AO) (R M S I : TypeId) (r : RS) (B : List AO) : List AO := X :: .vars R (rfC r (.rwc 4 r.nx.length) (.rwc 5 r.nx.length)) :: (eI M S I 2 r.ins.length r.nx.length r.nx r.ot ++ B)
section
variable {X : AO} {R M S I : TypeId} {r : RS} {B : List AO}
theorem lc (h : r.tb = true) : SF X R M S I r = FT X R M S I r [] := by unfold SF FT fA fB fT; rw [if_pos h, if_pos h, if_pos h, List.append_nil]
theorem dB : (FT X R M S I r B).length = 6 + 4 * r.nx.length + B.length := by unfold FT eI; simp only [ak, aq, bD]; omega
theorem ee (C : List AO) : FT X R M S I r B ++ C = FT X R M S I r (B ++ C) := by unfold FT; simp [List.append_assoc]
theorem j7 : (FT X R M S I r B)[1]? = some (.vars R (rfC r (.rwc 4 r.nx.length) (.rwc 5 r.nx.length))) := rfl
theorem vp : (FT X R M S I r B)[4]? = some (.rowc S 1 r.nx.length (cP 6 r.ins.length r.nx.length)) := rfl
theorem wS : (FT X R M S I r B)[5]? = some (.rowc S 1 r.nx.length (cP 7 r.ins.length r.nx.length)) := rfl
theorem wP {i : Nat} (h : i < 4 * r.nx.length) : (FT X R M S I r B)[6 + i]? = (cA S I 6 r.ins.length r.nx r.ot r.nx.length)[i]? := by
  unfold FT eI
  rw [show 6 + i = i + 1 + 1 + 1 + 1 + 1 + 1 by omega, List.getElem?_cons_succ, List.getElem?_cons_succ, am, am, am, am]
  simp only [List.getElem?_cons_succ]
  rw [List.getElem?_append_left (by rw [bD]; exact h)]
theorem wK {s : Nat} (h : s < r.nx.length) : (FT X R M S I r B)[6 + 4 * s]? = some (.row (.int .i64) I r.ins.length (r.nx.getD s [])) := by
  rw [wP (by omega)]; exact kH (j := 0) h (by decide)
theorem wO {s : Nat} (h : s < r.nx.length) : (FT X R M S I r B)[7 + 4 * s]? = some (.row (.int .i64) I r.ins.length (r.ot.getD s [])) := by
  rw [show 7 + 4 * s = 6 + (4 * s + 1) by omega, wP (by omega)]; exact kH (j := 1) h (by decide)
theorem xm (i : Nat) : (FT X R M S I r B)[6 + 4 * r.nx.length + i]? = B[i]? := by
  unfold FT
  have e : (X :: .vars R (rfC r (.rwc 4 r.nx.length) (.rwc 5 r.nx.length)) :: (eI M S I 2 r.ins.length r.nx.length r.nx r.ot ++ B)) = (X :: .vars R (rfC r (.rwc 4 r.nx.length) (.rwc 5 r.nx.length)) :: eI M S I 2 r.ins.length r.nx.length r.nx r.ot) ++ B := rfl
  have hl : (X :: .vars R (rfC r (.rwc 4 r.nx.length) (.rwc 5 r.nx.length)) :: eI M S I 2 r.ins.length r.nx.length r.nx r.ot).length = 6 + 4 * r.nx.length := by unfold eI; simp only [ak, bD]; omega
  rw [e, List.getElem?_append_right (by omega), hl, Nat.add_sub_cancel_left]
theorem jr {x : AO} {C : List AO} : (FT X R M S I r (x :: C))[6 + 4 * r.nx.length]? = some x := xm (B := x :: C) 0
theorem vJ {i : Nat} (x : AO) (h : i < 4 * r.nx.length) : (FT X R M S I r B).set (6 + i) x = X :: .vars R (rfC r (.rwc 4 r.nx.length) (.rwc 5 r.nx.length)) :: mlQ M 2 r.ins.length r.nx.length :: mlQ M 2 r.ins.length r.nx.length :: .rowc S 1 r.nx.length (cP 6 r.ins.length r.nx.length) :: .rowc S 1 r.nx.length (cP 7 r.ins.length r.nx.length) :: ((cA S I 6 r.ins.length r.nx r.ot r.nx.length).set i x ++ B) := by
  unfold FT eI
  rw [show 6 + i = i + 1 + 1 + 1 + 1 + 1 + 1 by omega, am, am, am, am]
  simp only [ba]
  rw [List.set_append, if_pos (by rw [bD]; exact h)]
theorem x1 {s : Nat} (x : List Int) (h : s < r.nx.length) : (FT X R M S I r B).set (6 + 4 * s) (.row (.int .i64) I r.ins.length x) = FT X R M S I { r with nx := r.nx.set s x } B := by
  rw [vJ _ (by omega), lj x h (Nat.le_refl _)]
  unfold FT eI
  simp only [List.length_set]; rfl
theorem x2 {s : Nat} (x : List Int) (h : s < r.nx.length) (ho : r.ot.length = r.nx.length) : (FT X R M S I r B).set (7 + 4 * s) (.row (.int .i64) I r.ins.length x) = FT X R M S I { r with ot := r.ot.set s x } B := by
  rw [show 7 + 4 * s = 6 + (4 * s + 1) by omega, vJ _ (by omega), lI x h (by omega)]; rfl
theorem lh {n : Nat} {k : Nat} {nx ot : List (List Int)} {N : Nat} : ∀ {n : Nat}, 6 + 4 * n ≤ N → (cA S I 6 k nx ot n).all (jt N) = true
  | 0, _ => rfl
  | n + 1, h => by
    rw [cA, List.all_append, lh (n := n) (k := k) (nx := nx) (ot := ot) (by omega), Bool.true_and]
    simp only [pT, List.all_cons, List.all_nil, jt, cw, Bool.and_true, Bool.true_and, Bool.and_eq_true, decide_eq_true_eq]
    omega
theorem nS {b k N : Nat} {n : Nat} (h : b + 4 * n ≤ N + 3) : (cP b k n).all (cw N) = true := by
  unfold cP
  rw [List.all_map, List.all_eq_true]
  intro s hs
  have := List.mem_range.1 hs
  simp only [Function.comp, cw, decide_eq_true_eq]; omega
theorem eJ (hX : ∀ N, jt N X = true) : (FT X R M S I r []).all (jt (FT X R M S I r []).length) = true := by
  rw [dB]
  simp only [aw, Nat.add_zero]
  unfold FT eI mlQ
  rw [List.append_nil]
  simp only [List.all_cons, hX, Bool.true_and, jt, rfC]
  rw [nS (by omega), nS (by omega), lh (n := r.nx.length) (Nat.le_refl _)]
  simp only [List.all_cons, List.all_nil, cw, Bool.and_true, Bool.true_and, Bool.and_eq_true, decide_eq_true_eq]
  exact ⟨hX _, by omega⟩
end
/-plain-/
theorem jU {X : AO} {R M S I : TypeId} (r : RS) (w : List Bs) : (FT X R M S I r []).length ≤ (FT X R M S I (br r w).1 []).length := by
  rw [dB, dB]
  have : (br r w).1.nx.length = r.nx.length := by
    unfold br
    split
    · rfl
    · split
      · rfl
      · split
        · rfl
        · unfold fN; simp
  omega
theorem wq {X : AO} {R M S I : TypeId} {r : RS} {x y : AO} {C : List AO} : (FT X R M S I r (x :: C)).set (6 + 4 * r.nx.length) y = FT X R M S I r (y :: C) := by
  have h := ee (X := X) (R := R) (M := M) (S := S) (I := I) (r := r) (B := []) (x :: C)
  have h2 := ee (X := X) (R := R) (M := M) (S := S) (I := I) (r := r) (B := []) (y :: C)
  rw [ar] at h h2
  have hl := dB (X := X) (R := R) (M := M) (S := S) (I := I) (r := r) (B := [])
  simp only [aw, Nat.add_zero] at hl
  rw [← h, ← h2, List.set_append, if_neg (by omega), hl, Nat.sub_self]; rfl
theorem xv {a b c d : Prop} (h : ((a ∨ b) ∨ c) ∨ d) : a ∨ d ∨ b ∨ c := by
  rcases h with ((h | h) | h) | h
  · exact .inl h
  · exact .inr (.inr (.inl h))
  · exact .inr (.inr (.inr h))
  · exact .inr (.inl h)
/-plain-/
/-plain-/
def lq (P : Nat → Bool) (s : Nat) : Nat := ((List.range s).find? P).getD s
def rc0 (t : Dfa) (s : Nat) : Int := (lq (fun q => decide (t.acc.getD q false = t.acc.getD s false)) s : Int)
def rcF (t : Dfa) (cl : List Int) (s : Nat) : Int := (lq (fun q => decide (t.sg cl q = t.sg cl s)) s : Int)
def rcl (t : Dfa) : Nat → List Int
  | 0 => (List.range t.nx.length).map (rc0 t)
  | r + 1 => (List.range t.nx.length).map (rcF t (rcl t r))
def rC (t : Dfa) : List Int := rcl t t.nx.length
structure RCK (t : Dfa) : Prop where
  rg : ∀ s, s < t.nx.length → 0 ≤ (rC t).getD s 0 ∧ (rC t).getD s 0 ≤ s
  eq : ∀ s u, s < t.nx.length → u < t.nx.length → ((rC t).getD s 0 = (rC t).getD u 0 ↔ DEQ t t s u)
  id : ∀ s, s < t.nx.length → (rC t).getD ((rC t).getD s 0).toNat 0 = (rC t).getD s 0
/-plain-/
/-plain-/
/-plain-/
def unN : List (List Int) → Nat
  | [] => 0
  | l :: ls => l.countP (fun x => decide (x < 0)) + unN ls
structure RJ (r : RS) : Prop where
  nm : 1 ≤ r.rd → aY r.nm = true
  n1 : 4 ≤ r.rd → 1 ≤ r.sts.length ∧ r.inp = r.ins.length
  st : 5 ≤ r.rd → 0 ≤ r.st ∧ r.st < r.sts.length
  en : 4 ≤ r.rd → ∀ s a : Nat, s < r.sts.length → a < r.ins.length → (r.nx.getD s []).getD a 0 < 0 ∨ 0 ≤ (r.nx.getD s []).getD a 0 ∧ (r.nx.getD s []).getD a 0 < r.sts.length ∧ 0 ≤ (r.ot.getD s []).getD a 0 ∧ (r.ot.getD s []).getD a 0 < r.outs.length
  un : 4 ≤ r.rd → (unN r.nx : Int) ≤ r.lf
/-plain-/
theorem oT {P : Program} {s : St} {t a b T k : Nat} {T' : TypeId} {td : TD} {cs : List AC} {v : AV} {x y : AC} (ht : aJ P T = some td) (hl : lkp s.env t = .one (.ptr k 0 0 0)) (hc : s.L[k]? = some (.vars T' cs)) (hr : ca td cs 0 = some v)
    (ha : lkp s.env a = .one x) (hb : lkp s.env b = .one y) : mw P s [.cell t T, .tmp a, .tmp b] = some (.tup [v, .one x, .one y]) := by
  simp [mw, ga, ht, hl, cF, hc, hr, ha, hb]
theorem o5 {C : Ctx} {Q : Exit → St → Prop} {s : St} {c : Code} (k : Nat) {T : TypeId} {cs cs' : List AC} (hk : s.L[k]? = some (.vars T cs)) (hle : aV CLE cs cs') (h : AWP C c Q { env := s.env, L := s.L.set k (.vars T cs') }) : AWP C c Q s := by
  intro σ a w hr
  obtain ⟨b, vs, e1, e2, e3⟩ := hr.inv.ob k _ hk
  have hI := nz hr.inv hk e1 e2 (cs' := cs') (hle.map2 (fun a b c hab hac => hab C s.L σ w c hac) e3)
  exact h σ a w ⟨hI.1, fun t => hI.2.rv (hr.env t), hr.size, hr.defers, hr.pres.trans hI.2⟩
def pl (env : Env) : Prop := ∀ x, x ∈ env → ∀ k v, x.2 ≠ .one (.row k v)
theorem gQ {k ver : Nat} {t : Ty} {xs : List t.den} : ∀ {env : Env}, pl env → (env.map fun x => (x.1, match x.2 with | .one (.row k' v) => if k' = k ∧ v = ver then AV.one (.list t xs) else .one (.row k' v) | v => v)) = env
  | [], _ => rfl
  | (n, v) :: env, h => by
    rw [aS, gQ fun x hx => h x (aI _ hx)]
    congr 1
    simp only
    split
    · rename_i k' v'; exact absurd rfl (h _ (aT ..) k' v')
    · rfl
theorem nP {C : Ctx} {Q : Exit → St → Prop} {c : Code} (m kv : Nat) {e T : TypeId} {sz v : Nat} {env : Env} (hen : pl env) : ∀ (F : List (Nat × List Int)) (L : List AO) (ds : List AC),
    L[m]? = some (.rowc T sz v (ds ++ F.map fun p => .row p.1 kv)) → (∀ p, p ∈ F → L[p.1]? = some (.row (.int .i64) e kv p.2)) → (F.map (·.1)).Nodup → (∀ c, c ∈ ds → ∀ k v, c ≠ .row k v) →
    (∀ L' : List AO, L'.length = L.length → (∀ j, j ≠ m → j ∉ F.map (·.1) → L'[j]? = L[j]?) → L'[m]? = some (.rowc T sz v (ds ++ F.map fun p => .list (.int .i64) p.2)) → AWP C c Q { env := env, L := L' }) → AWP C c Q { env := env, L := L }
  | [], L, ds, hm, _, _, _, h => h L rfl (fun _ _ _ => rfl) hm
  | p :: F, L, ds, hm, hF, hn, hds, h => by
    have hp := hF p (aT ..)
    have hltm : m < L.length := (List.getElem?_eq_some_iff.1 hm).1
    have hmp : m ≠ p.1 := by rintro rfl; rw [hm] at hp; cases hp
    rw [aS, List.nodup_cons] at hn
    refine kU (s := { env := env, L := L }) p.1 m hp hm ?_
    refine (congrArg (fun E => AWP C c Q { env := E, L := _ }) (gQ hen)).mpr ?_
    have e1 : (ds ++ (p :: F).map fun p => AC.row p.1 kv).map (frC p.1 kv (.int .i64) p.2) = (ds ++ [.list (.int .i64) p.2]) ++ F.map fun p => .row p.1 kv := by
      rw [List.map_append, kA fun c hc k' v' e => absurd e (hds c hc k' v'), aS, aS]
      rw [kA fun c hc k' v' e9 => by
        obtain ⟨q, hq, rfl⟩ := List.mem_map.1 hc
        cases e9
        intro e; exact hn.1 (List.mem_map.2 ⟨q, hq, e⟩)]
      simp [frC]
    rw [e1]
    refine nP (T := T) (sz := sz) (v := v) (e := e) m kv hen F _ (ds ++ [.list (.int .i64) p.2]) (by simp [hltm]) (fun q hq => ?_) hn.2 (fun c hc k v => ?_) fun L' h1 h2 h3 => ?_
    · have h9 := hF q (aI _ hq)
      have hqm : m ≠ q.1 := by rintro e; rw [e, h9] at hm; cases hm
      have hqp : p.1 ≠ q.1 := fun e => hn.1 (List.mem_map.2 ⟨q, hq, e.symm⟩)
      rw [List.getElem?_set_ne hqm, List.getElem?_set_ne hqp]; exact h9
    · rcases List.mem_append.1 hc with hc | hc
      · exact hds c hc k v
      · simp at hc; subst hc; simp
    · refine h L' (by rw [h1]; simp) (fun j hj hj2 => ?_) (by rw [h3]; simp)
      simp only [aS, List.mem_cons, not_or] at hj2
      rw [h2 j hj hj2.2, List.getElem?_set_ne (Ne.symm hj), List.getElem?_set_ne (Ne.symm hj2.1)]
def fe (b : Nat) (xs : List (List Int)) (n : Nat) : List (Nat × List Int) := (List.range n).map fun s => (b + 4 * s, xs.getD s [])
theorem od (b k n : Nat) (xs : List (List Int)) : (fe b xs n).map (fun p => AC.row p.1 k) = cP b k n := by unfold fe cP; rw [List.map_map]; rfl
theorem kQ {b n j : Nat} {xs : List (List Int)} (h : j ∈ (fe b xs n).map (·.1)) : ∃ s, s < n ∧ j = b + 4 * s := by
  unfold fe at h
  rw [List.map_map] at h
  obtain ⟨s, hs, rfl⟩ := List.mem_map.1 h
  exact ⟨s, List.mem_range.1 hs, rfl⟩
theorem lB (b n : Nat) (xs : List (List Int)) : ((fe b xs n).map (·.1)).Nodup := by
  unfold fe List.Nodup
  rw [List.map_map, List.pairwise_map]
  exact List.nodup_range.imp fun h e => h (by simp only [Function.comp] at e; omega)
theorem fL {b n : Nat} {xs : List (List Int)} (h : xs.length = n) : (fe b xs n).map (fun p => AC.list (.int .i64) p.2) = xs.flatMap (acs (.list (.int .i64))) := by
  have e : ∀ l : List (List Int), l.flatMap (acs (.list (.int .i64))) = l.map fun x => AC.list (.int .i64) x := by
    intro l
    induction l with
    | nil => rfl
    | cons x l ih => rw [List.flatMap_cons, ih]; rfl
  rw [e]
  unfold fe
  rw [List.map_map]
  apply List.ext_getElem?
  intro i
  rw [List.getElem?_map, List.getElem?_map]
  rcases Nat.lt_or_ge i n with hi | hi
  · rw [List.getElem?_range hi, List.getElem?_eq_getElem (by omega)]
    simp [List.getD, List.getElem?_eq_getElem (show i < xs.length by omega)]
  · rw [List.getElem?_eq_none (by rw [List.length_range]; exact hi), List.getElem?_eq_none (by omega)]; rfl
theorem um {C : Ctx} {Q : Exit → St → Prop} {c : Code} {env : Env} {X : AO} {R M S I : TypeId} {r : RS} (hen : pl env) (ho : r.ot.length = r.nx.length)
    (h : ∀ L' : List AO, 2 ≤ L'.length → L'[0]? = some X → L'[1]? = some (.vars R (rfC r (.list (.list (.int .i64)) r.nx) (.list (.list (.int .i64)) r.ot))) → AWP C c Q { env := env, L := L' }) : AWP C c Q { env := env, L := FT X R M S I r [] } := by
  refine nP 4 r.ins.length (e := I) hen (fe 6 r.nx r.nx.length) _ [] (by rw [od]; exact vp) (fun p hp => ?_) (lB ..) (fun c hc => by cases hc) fun L1 a1 a2 a3 => ?_
  · unfold fe at hp
    obtain ⟨s, hs, rfl⟩ := List.mem_map.1 hp
    exact wK (List.mem_range.1 hs)
  have b1 : ∀ j, j ≠ 4 → (∀ s, j ≠ 6 + 4 * s) → L1[j]? = (FT X R M S I r [])[j]? := fun j h1 h2 => a2 j h1 fun hm => by
    obtain ⟨s, _, e⟩ := kQ hm; exact h2 s e
  refine nP 5 r.ins.length (e := I) hen (fe 7 r.ot r.nx.length) _ [] (by rw [od, b1 5 (by decide) (fun s => by omega)]; exact wS) (fun p hp => ?_) (lB ..) (fun c hc => by cases hc) fun L2 c1 c2 c3 => ?_
  · unfold fe at hp
    obtain ⟨s, hs, rfl⟩ := List.mem_map.1 hp
    rw [b1 _ (by omega) (fun t => by omega)]
    exact wO (List.mem_range.1 hs)
  have d1 : ∀ j, j ≠ 4 → j ≠ 5 → (∀ s, j ≠ 6 + 4 * s) → (∀ s, j ≠ 7 + 4 * s) → L2[j]? = (FT X R M S I r [])[j]? := fun j h1 h2 h3 h4 => by
    rw [c2 j h2 fun hm => by obtain ⟨s, _, e⟩ := kQ hm; exact h4 s e]
    exact b1 j h1 h3
  have d4 : L2[4]? = some (.rowc S 1 r.nx.length ([] ++ (fe 6 r.nx r.nx.length).map fun p => .list (.int .i64) p.2)) := by
    rw [c2 4 (by decide) fun hm => by obtain ⟨s, _, e⟩ := kQ hm; omega]; exact a3
  have d0 : L2[0]? = some X := d1 0 (by decide) (by decide) (fun s => by omega) (fun s => by omega)
  have d9 : L2[1]? = some (.vars R (rfC r (.rwc 4 r.nx.length) (.rwc 5 r.nx.length))) := d1 1 (by decide) (by decide) (fun s => by omega) (fun s => by omega)
  rw [ar, fL rfl] at d4
  rw [ar, fL ho] at c3
  have hl4 : (r.nx.flatMap (acs (.list (.int .i64)))).length = r.nx.length * (Ty.list (.int .i64)).size := by rw [← fL (b := 0) rfl]; unfold fe; simp [Ty.size]
  have hl5 : (r.ot.flatMap (acs (.list (.int .i64)))).length = r.nx.length * (Ty.list (.int .i64)).size := by rw [← fL (b := 0) ho]; unfold fe; simp [Ty.size]
  have k0 : 0 < L2.length := (List.getElem?_eq_some_iff.1 d0).1
  have k1 : 1 < L2.length := (List.getElem?_eq_some_iff.1 d9).1
  have k4 : 4 < L2.length := (List.getElem?_eq_some_iff.1 d4).1
  have k5 : 5 < L2.length := (List.getElem?_eq_some_iff.1 c3).1
  refine fH (s := { env := env, L := L2 }) 4 1 7 (.list (.int .i64)) r.nx.length (T := R) (e := S) (v := r.nx.length) d9 rfl d4 (jf _ _) hl4 ?_
  show AWP C c Q { env := env, L := (L2.set 4 _).set 1 (.vars R (rfC r (.row 4 (r.nx.length + 1)) (.rwc 5 r.nx.length))) }
  refine fH (s := { env := env, L := (L2.set 4 _).set 1 (.vars R (rfC r (.row 4 (r.nx.length + 1)) (.rwc 5 r.nx.length))) }) 5 1 8 (.list (.int .i64)) r.nx.length (T := R) (e := S) (v := r.nx.length) (cv := rfC r (.row 4 (r.nx.length + 1)) (.rwc 5 r.nx.length)) (by simp [k1]) rfl
    (by rw [List.getElem?_set_ne (by decide), List.getElem?_set_ne (by decide)]; exact c3) (by rw [← ho]; exact jf _ _) hl5 ?_
  show AWP C c Q { env := env, L := ((((L2.set 4 _).set 1 _).set 5 _)).set 1 (.vars R (rfC r (.row 4 (r.nx.length + 1)) (.row 5 (r.nx.length + 1)))) }
  refine gV (s := { env := env, L := ((((L2.set 4 (.row (.list (.int .i64)) S (r.nx.length + 1) r.nx)).set 1 (.vars R (rfC r (.row 4 (r.nx.length + 1)) (.rwc 5 r.nx.length)))).set 5 (.row (.list (.int .i64)) S (r.nx.length + 1) r.ot))).set 1 (.vars R (rfC r (.row 4 (r.nx.length + 1)) (.row 5 (r.nx.length + 1)))) }) 4 1 (t := .list (.int .i64)) (e := S) (ver := r.nx.length + 1) (xs := r.nx) (cs := rfC r (.row 4 (r.nx.length + 1)) (.row 5 (r.nx.length + 1))) (T := R)
    (by rw [List.getElem?_set_ne (by decide), List.getElem?_set_ne (by decide), List.getElem?_set_ne (by decide)]; simp [k4]) (by simp [k1]) ?_
  refine (congrArg (fun E => AWP C c Q { env := E, L := _ }) (gQ hen)).mpr ?_
  have g1 : (rfC r (.row 4 (r.nx.length + 1)) (.row 5 (r.nx.length + 1))).map (frC 4 (r.nx.length + 1) (.list (.int .i64)) r.nx) = rfC r (.list (.list (.int .i64)) r.nx) (.row 5 (r.nx.length + 1)) := by
    unfold rfC; simp [frC]
  rw [g1]
  refine gV (s := { env := env, L := _ }) 5 1 (t := .list (.int .i64)) (e := S) (ver := r.nx.length + 1) (xs := r.ot) (cs := rfC r (.list (.list (.int .i64)) r.nx) (.row 5 (r.nx.length + 1))) (T := R)
    (by rw [List.getElem?_set_ne (by decide), List.getElem?_set_ne (by decide), List.getElem?_set_ne (by decide)]; simp [k5]) (by simp [k1]) ?_
  refine (congrArg (fun E => AWP C c Q { env := E, L := _ }) (gQ hen)).mpr ?_
  have g2 : (rfC r (.list (.list (.int .i64)) r.nx) (.row 5 (r.nx.length + 1))).map (frC 5 (r.nx.length + 1) (.list (.int .i64)) r.ot) = rfC r (.list (.list (.int .i64)) r.nx) (.list (.list (.int .i64)) r.ot) := by
    unfold rfC; simp [frC]
  rw [g2]
  refine h _ (by simp; omega) ?_ (by simp [k1])
  rw [List.getElem?_set_ne (by decide), List.getElem?_set_ne (by decide), List.getElem?_set_ne (by decide), List.getElem?_set_ne (by decide), List.getElem?_set_ne (by decide), List.getElem?_set_ne (by decide), List.getElem?_set_ne (by decide), List.getElem?_set_ne (by decide)]
  exact d0
/-plain-/
theorem qE : ∀ (n : Nat) (s : Bs), s.length ≤ n → lns s = ((spB 10 s).take ((spB 10 s).length - 1)).map (· ++ [10]) ++ (if (spB 10 s).getD ((spB 10 s).length - 1) [] = [] then [] else [(spB 10 s).getD ((spB 10 s).length - 1) []])
  | 0, s, h => by
    obtain rfl : s = [] := List.eq_nil_of_length_eq_zero (by omega)
    rfl
  | n + 1, s, h => by
    by_cases e : s = []
    · subst e; rfl
    · rw [iD e]
      by_cases q : Lib.indexByte s 10 < 0
      · have h1 : lnE s = s.length := if_pos q
        rw [h1, aD, List.drop_length, vt, jQ (mb q)]
        simp [e]
      · have h1 : lnE s = (Lib.indexByte s 10).toNat + 1 := if_neg q
        obtain ⟨g1, g2, g3⟩ := ge (s := s) (c := 10) (by omega)
        have hp := fm 10 (s.drop ((Lib.indexByte s 10).toNat + 1))
        rw [h1, qE n (s.drop ((Lib.indexByte s 10).toNat + 1)) (by rw [List.length_drop]; omega), pP (s := s) (c := 10) (by omega)]
        generalize hQ : spB 10 (s.drop ((Lib.indexByte s 10).toNat + 1)) = Q at hp
        have e1 : s.take ((Lib.indexByte s 10).toNat + 1) = s.take (Lib.indexByte s 10).toNat ++ [10] := by
          have h9 := iz (s := s) (k := (Lib.indexByte s 10).toNat) g1
          rw [h9]
          congr 1
          have h8 := congrArg (fun l => List.getD l (Lib.indexByte s 10).toNat 0) g3
          rw [show s.getD (Lib.indexByte s 10).toNat 0 = _ from h8]
          have h7 : (s.take (Lib.indexByte s 10).toNat).length = (Lib.indexByte s 10).toNat := by rw [List.length_take]; omega
          generalize s.take (Lib.indexByte s 10).toNat = A at h7
          simp [List.getD, h7]
        rw [e1]
        obtain ⟨m, hm⟩ : ∃ m, Q.length = m + 1 := ⟨Q.length - 1, by omega⟩
        simp only [ak, hm, Nat.add_sub_cancel, bY, aS, am]
        have e2 : (s.take (Lib.indexByte s 10).toNat :: Q).getD (m + 1) [] = Q.getD m [] := by simp [List.getD]
        rw [e2]
def bm (P : List Bs) : Nat → RS
  | 0 => rs0
  | k + 1 => (cE (bm P k) (P.getD k [])).1
def OKC (P : List Bs) (k : Nat) : Prop := ∀ j, j < k → (cE (bm P j) (P.getD j [])).2 = 0
theorem dG {P : List Bs} {k : Nat} (h : OKC P k) (h2 : (cE (bm P k) (P.getD k [])).2 = 0) : OKC P (k + 1) := fun j hj => by
  by_cases e : j = k
  · subst e; exact h2
  · exact h j (by omega)
theorem sE (l : Bs) (T : List Bs) (k : Nat) (r : RS) : PL ((l ++ [10]) :: T) k r = if (cE r l).2 = 0 then PL T (k + 1) (cE r l).1 else (gU, (k : Int) + 1, (cE r l).2) := by
  show (if (bg r (l ++ [10])).2 = 0 then PL T (k + 1) (bg r (l ++ [10])).1 else (gU, (k : Int) + 1, (bg r (l ++ [10])).2)) = _
  rw [gz]
theorem sd {P tl : List Bs} {n : Nat} (hn : n ≤ P.length) : ∀ {k : Nat}, k ≤ n → OKC P k → PL ((P.take n).map (· ++ [10]) ++ tl) 0 rs0 = PL (((P.take n).drop k).map (· ++ [10]) ++ tl) k (bm P k)
  | 0, _, _ => rfl
  | k + 1, hk, h => by
    rw [sd (k := k) hn (by omega) fun j hj => h j (by omega)]
    have e : (P.take n).drop k = P.getD k [] :: (P.take n).drop (k + 1) := by
      rw [List.drop_eq_getElem_cons (show k < (P.take n).length by rw [List.length_take]; omega)]
      congr 1
      rw [List.getElem_take]
      simp [List.getD, List.getElem?_eq_getElem (show k < P.length by omega)]
    rw [e, aS, am, sE, if_pos (h k (by omega))]; rfl
section
variable {s : Bs} {k : Nat}
theorem rY (hs : s.length ≤ 900000) (hk : k ≤ (spB 10 s).length - 1) (h : OKC (spB 10 s) k) : PM s = PL ((((spB 10 s).take ((spB 10 s).length - 1)).drop k).map (· ++ [10]) ++ (if (spB 10 s).getD ((spB 10 s).length - 1) [] = [] then [] else [(spB 10 s).getD ((spB 10 s).length - 1) []])) k (bm (spB 10 s) k) := by
  unfold PM
  rw [if_neg (by omega), qE s.length s (Nat.le_refl _)]
  exact sd (by omega) hk h
theorem p8 (hs : s.length ≤ 900000) (hk : k < (spB 10 s).length - 1) (h : OKC (spB 10 s) k) (h2 : ¬ (cE (bm (spB 10 s) k) ((spB 10 s).getD k [])).2 = 0) : PM s = (gU, (k : Int) + 1, (cE (bm (spB 10 s) k) ((spB 10 s).getD k [])).2) := by
  rw [rY hs (by omega) h]
  have e : ((spB 10 s).take ((spB 10 s).length - 1)).drop k = (spB 10 s).getD k [] :: ((spB 10 s).take ((spB 10 s).length - 1)).drop (k + 1) := by
    rw [List.drop_eq_getElem_cons (show k < ((spB 10 s).take ((spB 10 s).length - 1)).length by rw [List.length_take]; omega)]
    congr 1
    rw [List.getElem_take]
    simp [List.getD, List.getElem?_eq_getElem (show k < (spB 10 s).length by omega)]
  rw [e, aS, am, sE, if_neg h2]
theorem sL (hs : s.length ≤ 900000) (hk : k = (spB 10 s).length - 1) (h : OKC (spB 10 s) k) : PM s = PL (if (spB 10 s).getD k [] = [] then [] else [(spB 10 s).getD k []]) k (bm (spB 10 s) k) := by
  rw [rY hs (by omega) h, List.drop_of_length_le (by rw [List.length_take]; omega), hk]; rfl
theorem uV (hs : s.length ≤ 900000) (hk : k = (spB 10 s).length - 1) (h : OKC (spB 10 s) k) (h2 : ¬ (spB 10 s).getD k [] = []) : PM s = (gU, (k : Int) + 1, 5) := by
  have hp := fm 10 s
  have hf : (10 : UInt8) ∉ (spB 10 s).getD k [] := iO (cU (by omega))
  have e : (bg (bm (spB 10 s) k) ((spB 10 s).getD k [])).2 = 5 := by
    unfold bg
    rw [if_pos]
    cases q : dH ((spB 10 s).getD k []) [10] with
    | false => rfl
    | true =>
      obtain ⟨t, ht⟩ := og.1 q
      exact absurd (by rw [← ht]; simp) hf
  rw [sL hs hk h, if_neg h2]
  show (if (bg (bm (spB 10 s) k) ((spB 10 s).getD k [])).2 = 0 then _ else (gU, (k : Int) + 1, (bg (bm (spB 10 s) k) ((spB 10 s).getD k [])).2)) = _
  rw [e]; rfl
theorem wz (hs : s.length ≤ 900000) (hk : k = (spB 10 s).length - 1) (h : OKC (spB 10 s) k) (h2 : (spB 10 s).getD k [] = []) : PM s = iy k (bm (spB 10 s) k) := by
  rw [sL hs hk h, if_pos h2]; rfl
end
structure RK (r : RS) : Prop where
  l4 : r.rd = 4 → r.lf = (r.sts.length : Int) * r.ins.length
  l5 : 5 ≤ r.rd → r.lf + r.rd = (r.sts.length : Int) * r.ins.length + 5
theorem xo : RK rs0 := ⟨fun h => by simp [rs0] at h, fun h => by simp [rs0] at h⟩
theorem uO {r : RS} {w : List Bs} (h : RK r) (h5 : r.rd < 5) (he : (aU r w).2 = 0) : RK { (aU r w).1 with rd := (aU r w).1.rd + 1 } := by
  unfold aU at he ⊢
  split
  · rename_i q; rw [if_pos q] at he; simp at he
  · rename_i q
    rw [if_neg q] at he
    split
    · exact ⟨fun q => by simp only at q; omega, fun q => by simp only at q; omega⟩
    · rename_i e0
      rw [if_neg e0] at he
      split
      · exact ⟨fun q => by simp only at q; omega, fun q => by simp only at q; omega⟩
      · rename_i e1
        rw [if_neg e1] at he
        split
        · exact ⟨fun q => by simp only at q; omega, fun q => by simp only at q; omega⟩
        · rename_i e2
          rw [if_neg e2] at he
          split
          · rename_i e3
            rw [if_pos e3] at he
            unfold gR at he ⊢
            split
            · exact ⟨fun _ => rfl, fun q => by simp only [gb] at q; omega⟩
            · rename_i en; rw [if_neg en] at he; exact absurd he en
          · rename_i e3
            have h4 := h.l4 (by omega)
            refine ⟨fun q => by simp only at q; omega, fun _ => ?_⟩
            show r.lf + ((r.rd + 1 : Nat) : Int) = (r.sts.length : Int) * r.ins.length + 5
            omega
theorem wo {r : RS} {w : List Bs} (h : RK r) (h5 : 5 ≤ r.rd) (he : (br r w).2 = 0) : RK { (br r w).1 with rd := (br r w).1.rd + 1 } := by
  have h9 := h.l5 h5
  unfold br at he ⊢
  split
  · rename_i q; rw [if_pos q] at he; simp at he
  · rename_i q
    rw [if_neg q] at he
    split
    · rename_i q2; rw [if_pos q2] at he; simp at he
    · rename_i q2
      rw [if_neg q2] at he
      split
      · rename_i q3; rw [if_pos q3] at he; simp at he
      · refine ⟨fun q => by simp only [fN] at q; omega, fun _ => ?_⟩
        show r.lf - 1 + ((r.rd + 1 : Nat) : Int) = (r.sts.length : Int) * r.ins.length + 5
        omega
theorem uF {r : RS} {l : Bs} (h : RK r) (he : (cE r l).2 = 0) : RK (cE r l).1 := by
  unfold cE at he ⊢
  split
  · exact h
  · rename_i q2
    rw [if_neg q2] at he
    split
    · rename_i q3; rw [if_pos q3] at he; simp at he
    · rename_i q3
      rw [if_neg q3] at he
      unfold cz ey at he ⊢
      split
      · rename_i q4; rw [if_pos q4] at he; exact uO h q4 he
      · rename_i q4; rw [if_neg q4] at he; exact wo h (by omega) he
theorem pu {P : List Bs} : ∀ {k : Nat}, k ≤ 1900000 → OKC P k → RI (bm P k) ∧ RK (bm P k) ∧ (bm P k).rd ≤ k
  | 0, _, _ => ⟨wJ, xo, Nat.le_refl _⟩
  | k + 1, hk, h => by
    obtain ⟨h1, h2, h3⟩ := pu (P := P) (k := k) (by omega) fun j hj => h j (by omega)
    have h4 := h k (by omega)
    have h5 := q9 (s := P.getD k [] ++ [10]) h1 (by omega) (by rw [gz]; exact h4)
    rw [gz] at h5
    exact ⟨h5.1, uF h2 h4, by show (cE (bm P k) (P.getD k [])).1.rd ≤ k + 1; omega⟩
theorem ny {r : RS} {l : Bs} (h : l = [] ∨ l.getD 0 0 = 35) : cE r l = (r, 0) := if_pos h
theorem sC {r : RS} {l : Bs} (h : ¬ (l = [] ∨ l.getD 0 0 = 35)) (h2 : [] ∈ spB 32 l) : cE r l = (r, 5) := by unfold cE; rw [if_neg h, if_pos h2]
theorem i9 {r : RS} {l : Bs} (h : ¬ (l = [] ∨ l.getD 0 0 = 35)) (h2 : [] ∉ spB 32 l) (h5 : r.rd < 5) : cE r l = ({ (aU r (spB 32 l)).1 with rd := (aU r (spB 32 l)).1.rd + 1 }, (aU r (spB 32 l)).2) := by
  unfold cE cz ey; rw [if_neg h, if_neg h2, if_pos h5]
theorem kr {r : RS} {l : Bs} (h : ¬ (l = [] ∨ l.getD 0 0 = 35)) (h2 : [] ∉ spB 32 l) (h5 : ¬ r.rd < 5) : cE r l = ({ (br r (spB 32 l)).1 with rd := (br r (spB 32 l)).1.rd + 1 }, (br r (spB 32 l)).2) := by
  unfold cE cz ey; rw [if_neg h, if_neg h2, if_neg h5]
theorem f0 {k : Nat} {r : RS} (hR : RK r) (h : r.rd < 5 ∨ (r.rd : Int) < 5 + (r.sts.length : Int) * r.ins.length) : iy k r = (gU, (k : Int) + 1, 12) := by
  unfold iy
  rw [if_pos]
  rcases h with h | h
  · exact .inl h
  · by_cases q : r.rd < 5
    · exact .inl q
    · have := hR.l5 (by omega)
      exact .inr (by omega)
theorem eZ {k : Nat} {r : RS} (hR : RK r) (h5 : ¬ r.rd < 5) (h : ¬ (r.rd : Int) < 5 + (r.sts.length : Int) * r.ins.length) : iy k r = (sG r, 0, 0) := by
  unfold iy
  have := hR.l5 (by omega)
  rw [if_neg (by omega)]
theorem x0 {X : AO} {R M S I : TypeId} {r : RS} {a b : AC} {U : List AO} {w : List Bs} : ∃ cs U', hdQ X R M S I r a b U w = X :: .vars R (.int .i64 (r.rd : Int) :: cs) :: U' := by
  unfold hdQ
  split
  · exact ⟨_, _, rfl⟩
  · split
    · split <;> exact ⟨_, _, rfl⟩
    · split
      · exact ⟨_, _, rfl⟩
      · split
        · exact ⟨_, _, rfl⟩
        · split
          · exact ⟨_, _, rfl⟩
          · split <;> exact ⟨_, _, rfl⟩
theorem vX {X : AO} {R M S I : TypeId} {r : RS} {w : List Bs} (hI : RI r) (h5 : r.rd < 5) (he : (aU r w).2 = 0) : hdQ X R M S I r (fA r) (fB r) (fT M S I r) w = SF X R M S I (aU r w).1 := by
  unfold hdQ
  unfold aU at he ⊢
  by_cases q : ¬ w.getD 0 [] = kwd r.rd ∨ ((r.rd = 0 ∨ r.rd = 4) ∧ ¬ w.length = 2)
  · rw [if_pos q] at he; simp at he
  · rw [if_neg q] at he ⊢
    rw [if_neg q]
    by_cases e0 : r.rd = 0
    · rw [if_pos e0] at he ⊢
      rw [if_pos e0]
      have hb : aY (w.getD 1 []) = true := by
        by_cases e : aY (w.getD 1 []) = true
        · exact e
        · simp only [if_neg e] at he; omega
      rw [if_pos hb]; rfl
    · rw [if_neg e0] at he ⊢
      rw [if_neg e0]
      by_cases e1 : r.rd = 1
      · rw [if_pos e1, if_pos e1]
        have ht := hI.t3 (by omega)
        have hT : ∀ r' : RS, r'.tb = false → fT M S I r' = [] := fun r' h => by unfold fT; rw [h]; rfl
        unfold SF
        rw [hT r ht, hT _ (show ({ r with ins := w.drop 1 } : RS).tb = false from ht)]; rfl
      · rw [if_neg e1] at he ⊢
        rw [if_neg e1]
        by_cases e2 : r.rd = 2
        · rw [if_pos e2, if_pos e2]; rfl
        · rw [if_neg e2] at he ⊢
          rw [if_neg e2]
          by_cases e3 : r.rd = 3
          · rw [if_pos e3] at he ⊢
            rw [if_pos e3]
            have ht := hI.t3 (by omega)
            unfold gR at he ⊢
            by_cases en : dw (w.drop 1) = 0
            · rw [if_pos en]
              have hl : (w.drop 1).length ≤ 128 := by
                by_cases q1 : (w.drop 1).length = 0
                · omega
                · by_cases q2 : 128 < (w.drop 1).length
                  · rw [du q1 q2] at en; omega
                  · omega
              have hm : min (w.drop 1).length 129 = (w.drop 1).length := by omega
              have hT : fT M S I r = [] := by unfold fT; rw [ht]; rfl
              rw [hm, hT, lc (show (gb r (w.drop 1)).tb = true from rfl)]
              unfold FT
              rw [List.append_nil, ar]
              have hbl : (gb r (w.drop 1)).nx.length = (w.drop 1).length := iS ..
              rw [hbl]; rfl
            · rw [if_neg en] at he; exact absurd he en
          · rw [if_neg e3] at he ⊢
            rw [if_neg e3]
            have hst : ¬ ixB r.sts (w.getD 1 []) < 0 := by
              intro e; simp only [if_pos e] at he; omega
            by_cases hm : w.getD 1 [] ∈ r.sts
            · rw [if_pos hm]
              have e9 : ixB r.sts (w.getD 1 []) = (pos r.sts (w.getD 1 []) : Int) := if_pos hm
              rw [e9]; rfl
            · exact absurd (by show ixB r.sts (w.getD 1 []) < 0; unfold ixB; rw [if_neg hm]; decide) hst
theorem jT {X Y : AO} {R M S I : TypeId} {r : RS} : (SF X R M S I r).set 0 Y = SF Y R M S I r := rfl
theorem vH {X : AO} {R M S I : TypeId} {r : RS} : (SF X R M S I r).set 1 (.vars R [.int .i64 ((r.rd : Int) + 1), .list .str r.sts, .str r.nm, .list .str r.ins, .list .str r.outs, .int .i64 r.inp, .int .i64 r.st, fA r, fB r]) = SF X R M S I { r with rd := r.rd + 1 } := rfl
theorem fC {X : AO} {R M S I : TypeId} {r : RS} : (SF X R M S I r)[1]? = some (.vars R (rfC r (fA r) (fB r))) := rfl
theorem qN {X : AO} {R M S I : TypeId} {r : RS} : (SF X R M S I r)[0]? = some X := rfl
theorem fa {L : List AO} {x : AO} (h : 2 ≤ L.length) : (L.set 0 x)[0]? = some x := by rw [List.getElem?_set, if_pos rfl, if_pos (by omega)]
def vZ (env : Env) : Bool := env.all fun x => match x.2 with
  | .one (.row _ _) => false
  | _ => true
theorem tK {env : Env} (h : vZ env = true) : pl env := fun x hx k v e => by
  have := List.all_eq_true.1 h x hx
  rw [e] at this; cases this
theorem eO {i e : AC} : VLE (.tup [.agg [.str [], .nils, .nils, .int .i64 0, .int .i64 0, .nils, .nils], .one i, .one e]) (.tup [gU.av, .one i, .one e]) :=
  qJ ⟨sV ⟨.refl _, dn rfl, dn rfl, .refl _, .refl _, dn rfl, dn rfl, trivial⟩, fun _ _ _ _ _ h => h, fun _ _ _ _ _ h => h, trivial⟩
/-plain-/
theorem ue {P : Program} {s : St} {t T k : Nat} {T' : TypeId} {td : TD} {cs : List AC} {v : AV} (ht : aJ P T = some td) (hl : lkp s.env t = .one (.ptr k 0 0 0)) (hc : s.L[k]? = some (.vars T' cs)) (hr : ca td cs 0 = some v) : mw P s [.cell t T] = some v := by
  simp [mw, ga, ht, hl, cF, hc, hr]
/-plain-/
theorem ew {t : Ty} {e : AC} : VLE (.tup [.one .nils, .one e]) (.tup [.one (.list t []), .one e]) := qJ ⟨tI (dn rfl), fun _ _ _ _ _ h => h, trivial⟩
end Go.AV
namespace Go.Proofs.YtmfkpljjhiglpaaGreatDoor
open Go Go.AV
open Nat renaming reduceEqDiff → V, reduceAdd → O, reduceLeDiff → Z, reduceLT → ad, reduceMul → ab, reduceSub → aa
open List renaming set_cons_zero → bK, set_cons_succ → ba, getD_cons_zero → cM, length_append → aq, map_cons → aS, cons_append → am, map_nil → bM, length_cons → ak, nil_append → ar, take_succ_cons → bY, length_nil → aw, length_map → c0, length_replicate → aL, take_length → aD, mem_cons_self → aT, mem_cons_of_mem → aI
open Int renaming toNat_natCast → aN
theorem zT : type_of% (And.intro Tryz.ea105 (And.intro Tryz.ea51 (And.intro Tryz.el22 (And.intro Tryz.el25 (And.intro Tryz.el45 (And.intro Tryz.sa105 (And.intro Tryz.sa51 (And.intro Tryz.st24 (And.intro Tryz.st27 (And.intro Tryz.st29 (And.intro Tryz.st60 (And.intro Tryz.st67 (And.intro Tryz.td1 (And.intro Tryz.td105 (And.intro Tryz.td2 (And.intro Tryz.td21 (And.intro Tryz.td22 (And.intro Tryz.td24 (And.intro Tryz.td25 (And.intro Tryz.td27 (And.intro Tryz.td29 (And.intro Tryz.td3 (And.intro Tryz.td32 (And.intro Tryz.td4 (And.intro Tryz.td45 (And.intro Tryz.td5 (And.intro Tryz.td51 (And.intro Tryz.td58 (And.intro Tryz.td60 (And.intro Tryz.td65 (And.intro Tryz.td67 Tryz.td9))))))))))))))))))))))))))))))) :=
  And.intro Tryz.ea105 (And.intro Tryz.ea51 (And.intro Tryz.el22 (And.intro Tryz.el25 (And.intro Tryz.el45 (And.intro Tryz.sa105 (And.intro Tryz.sa51 (And.intro Tryz.st24 (And.intro Tryz.st27 (And.intro Tryz.st29 (And.intro Tryz.st60 (And.intro Tryz.st67 (And.intro Tryz.td1 (And.intro Tryz.td105 (And.intro Tryz.td2 (And.intro Tryz.td21 (And.intro Tryz.td22 (And.intro Tryz.td24 (And.intro Tryz.td25 (And.intro Tryz.td27 (And.intro Tryz.td29 (And.intro Tryz.td3 (And.intro Tryz.td32 (And.intro Tryz.td4 (And.intro Tryz.td45 (And.intro Tryz.td5 (And.intro Tryz.td51 (And.intro Tryz.td58 (And.intro Tryz.td60 (And.intro Tryz.td65 (And.intro Tryz.td67 Tryz.td9))))))))))))))))))))))))))))))
theorem oB  : bH Tryz.prog 15 [] (eU.av) := by
 refine aR Tryz.func15 rfl (by kernel_rfl) (Nat.le_of_ble_eq_true rfl) rfl fun C hP hN hB => ?_
 replace hN : C.N = 13 := hN
 simp only [aX, O]
 refine af fun _ k1 => ?_
 refine ah hP hN rfl ?_
 (refine ae rfl fun _ k0 => ?_; simp only [zO, zT, acs, reduceCtorEq, V, O, Z, ad, ab, aa, eU, Mdl.av, Mdl.cs]; (repeat refine an ?_); (try refine .inl ?_); apply k0; clear k0; simp only [zP, O])
 refine ag ?_
 apply k1; clear k1; refine kp [0] ?_
 refine af fun _ k2 => ?_
 refine ah hP hN rfl ?_
 iterate 13 (refine ae rfl fun _ k0 => ?_; simp only [zO, zT, acs, reduceCtorEq, V, O, Z, ad, ab, aa, eU, Mdl.av, Mdl.cs]; (repeat refine an ?_); (try refine .inl ?_); apply k0; clear k0; simp only [zP, O])
 refine ag ?_
 apply k2; clear k2; refine kp [0] ?_
 refine ax ?_
 refine ⟨nr, _, rfl, ?_⟩; simp only [zF, zP, V, O, eU, Mdl.av, Mdl.cs]
 refine VLE.of_eq ?_
 rfl
section
open Go.RowKit
def ITC (F : Fence) (n : Nat) (P : Program) (gf : Nat) (lb : Array Value) (encs : Nat → Array Value) (fin : Nat → Prop) (Bx : Nat → World → Prop) (stp : Nat → World → World) : Prop :=
  ∀ (l : Nat) (J JY Jx : Nat → World → Prop) (W : World), (∀ k W, J k W → Bx k W) → (∀ k W, JY k W → Bx k W) → (∀ k W, JY k W → J (k + 1) (stp k W)) →
    (∀ k W, J k W → ¬ fin k → YieldAt F (n - 1) P l (encs k) W fun e W' => (e = .returned (.bool true) ∧ JY k W') ∨ (e = .returned (.bool false) ∧ Jx k W')) → J 0 W →
    CallsIn F n P gf (#[.func (.yield l) #[] #[]] ++ lb) W fun e W' => (∃ v, e = .returned v) ∧ ((∃ k, fin k ∧ J k W') ∨ (∃ k, ¬ fin k ∧ Jx k W'))
def xd (D : Nat) (IY : Nat → World → Prop) (Ix : Code → Nat → World → Prop) (k : Nat) (W : World) : Go.Exit → Act → World → Prop
  | .normal, _, W' => (W'.heap[D]? = W.heap[D]? ∧ W'.heap[D + 1]? = W.heap[D + 1]?) ∧ IY k W'
  | .ret, _, W' => (W'.heap[D]? = W.heap[D]? ∧ W'.heap[D + 1]? = W.heap[D + 1]?) ∧ Ix .ret k W'
  | _, _, _ => False
theorem pf {F : Fence} {n : Nat} {P : Program} {g : Operand} {ps : Array Tmp} {assign body : Code} {Q : Go.Exit → Act → World → Prop} {a : Act} {w : World}
    (hro : F.round = none) (h1 : 1 ≤ n) {gf : Nat} {lb : Array Value} (hg : a.eval g = .func (.func gf) #[] lb) (hFg : F.fn gf) (eg : ∀ args w, (callFunc gf args).run P w = .ok (.enter gf args) w)
    {encs : Nat → Array Value} {fin : Nat → Prop} {Bx : Nat → World → Prop} {stp : Nat → World → World} (hit : ITC F (n - 1) P gf lb encs fin Bx stp) (hps : ∀ k, (encs k).size = ps.size)
    (hstp : ∀ k W b, w.heap.size ≤ b → (stp k W).heap[b]? = W.heap[b]?)
    (I IY : Nat → World → Prop) (Ix : Code → Nat → World → Prop) (hIb : ∀ k W, I k W → Bx k W) (hYb : ∀ k W, IY k W → Bx k W) (hst : ∀ k W, IY k W → I (k + 1) (stp k W))
    (hIp : ∀ k W r, I k W → w.heap.size + 1 < W.heap.size → I k (W.putObj (w.heap.size + 1) (.loop r))) (hYp : ∀ k W r, IY k W → w.heap.size + 1 < W.heap.size → IY k (W.putObj (w.heap.size + 1) (.loop r))) (hXp : ∀ c k W r, Ix c k W → w.heap.size + 1 < W.heap.size → Ix c k (W.putObj (w.heap.size + 1) (.loop r)))
    (h0 : ∀ r, I 0 ((w.alloc (.deferred (some []))).alloc (.loop r))) (a₁ : Nat → Act)
    (hassign : ∀ (l : Nat) (k : Nat) (W : World) (K : Act → World → Prop), K (a₁ k) W →
      assign.wpIn (F.inRound l) (n - 1 - 1) P (Exit.then K (fun _ _ _ => False)) { tmps := (ps.zip (encs k)).foldl (fun t (p, v) => t.setIfInBounds p v) a.tmps, defers := [] } W)
    (hbody : ∀ (k : Nat) (W : World), I k W → ¬ fin k → body.wpIn (F.inRound (w.heap.size + 1)) (n - 1 - 1) P (xd w.heap.size IY Ix k W) (a₁ k) W)
    (hdone : ∀ (k : Nat) (W : World), fin k → I k W → W.heap[w.heap.size]? = some (.deferred (some [])) → Q .normal { a with defers := { target := .collected w.heap.size, args := #[] } :: a.defers } W)
    (hstop : ∀ (c : Code) (k : Nat) (W : World), ¬ fin k → Ix c k W → W.heap[w.heap.size]? = some (.deferred (some [])) → c.wpIn F n P Q { a with defers := { target := .collected w.heap.size, args := #[] } :: a.defers } W) :
    (Code.rangeFunc g ps assign body).wpIn F n P Q a w := by
  refine wpIn_rangeFunc ?_
  intro fn hfn
  rw [hro]
  obtain ⟨rec, hrec⟩ : ∃ rec : LoopState → Option Code → Loop, rec = fun st pe => { state := st, pending := pe, fn, tmps := a.tmps, params := ps, assign, body, defers := w.heap.size } := ⟨_, rfl⟩
  obtain ⟨W1, hW1⟩ : ∃ W1, (w.alloc (.deferred (some []))).alloc (.loop (rec .ready none)) = W1 := ⟨_, rfl⟩
  have hL1 : W1.heap[w.heap.size + 1]? = some (.loop (rec .ready none)) := by
    rw [← hW1]; have := World.alloc_heap_new (w.alloc (.deferred (some []))) (.loop (rec .ready none)); rwa [World.size_alloc] at this
  have k1 : W1.heap[w.heap.size]? = some (.deferred (some [])) := by
    rw [← hW1]; exact (Below.heap_alloc _ _ _ (by simp)).trans (World.alloc_heap_new w _)
  have hI1 : I 0 W1 := by rw [← hW1]; exact h0 _
  refine ⟨w.heap.size + 1, [{ target := .collected w.heap.size, args := #[] }], W1, { target := .fn (.func gf) lb, args := #[.func (.yield (w.heap.size + 1)) #[] #[]] }, W1, gf,
    #[.func (.yield (w.heap.size + 1)) #[] #[]] ++ lb, W1, ?_, ?_, ?_, ?_, fun _ => h1, ?_⟩
  · rw [← hW1, hrec]; exact run_enterLoop_outer _ _ _ _ _
  · simp only [resolve, hg]
    simp [go_sem]
  · intro f' hf'; simp [Target.leads] at hf'; subst hf'; exact hFg
  · simp [invoke, go_sem, eg]
  · refine (hit (w.heap.size + 1)
      (fun k W => I k W ∧ W.heap[w.heap.size + 1]? = some (.loop (rec .ready none)) ∧ W.heap[w.heap.size]? = some (.deferred (some [])))
      (fun k W => IY k W ∧ W.heap[w.heap.size + 1]? = some (.loop (rec .ready none)) ∧ W.heap[w.heap.size]? = some (.deferred (some [])))
      (fun k W => ∃ c, Ix c k W ∧ W.heap[w.heap.size + 1]? = some (.loop (rec .done (some c))) ∧ W.heap[w.heap.size]? = some (.deferred (some [])))
      W1 (fun k W h => hIb k W h.1) (fun k W h => hYb k W h.1) (fun k W h => ⟨hst k W h.1, (hstp k W _ (Nat.le_succ _)).trans h.2.1, (hstp k W _ (Nat.le_refl _)).trans h.2.2⟩) ?_ ⟨hI1, hL1, k1⟩).mono ?_
    · rintro k W ⟨hi, hl, hk⟩ hnf
      have hlt : w.heap.size + 1 < W.heap.size := (Array.getElem?_eq_some_iff.1 hl).1
      have hy := run_yield (P := P) (args := encs k) hl (by rw [hrec]; exact hps k)
      rw [hrec] at hy
      refine ⟨fn, _, assign, body, hy, roundIn_of_wpIn hfn (hassign _ k W _ ?_)⟩
      clear hy
      refine ⟨_, run_beginRound hl (by rw [hrec]), ?_⟩
      have hl2 : (W.putObj (w.heap.size + 1) (.loop { rec .ready none with state := .busy })).heap[w.heap.size + 1]? = some (.loop { rec .ready none with state := .busy }) := World.putObj_heap_same hlt
      have hk2 : (W.putObj (w.heap.size + 1) (.loop { rec .ready none with state := .busy })).heap[w.heap.size]? = some (.deferred (some [])) := (World.putObj_heap_other (by omega)).trans hk
      refine wpIn_mono (hbody k _ (hIp k W _ hi hlt) hnf) ?_
      have fin2 : ∀ (jump : Option Code) (W3 : World), (W3.heap[w.heap.size]? = (W.putObj (w.heap.size + 1) (.loop { rec .ready none with state := .busy })).heap[w.heap.size]? ∧ W3.heap[w.heap.size + 1]? = (W.putObj (w.heap.size + 1) (.loop { rec .ready none with state := .busy })).heap[w.heap.size + 1]?) →
          w.heap.size + 1 < W3.heap.size ∧
          (Instr.endRound (w.heap.size + 1) jump).run P W3 = .ok (.bool jump.isNone) (W3.putObj (w.heap.size + 1) (.loop (rec (if jump.isNone then .ready else .done) jump))) ∧
          (W3.putObj (w.heap.size + 1) (.loop (rec (if jump.isNone then .ready else .done) jump))).heap[w.heap.size + 1]? = some (.loop (rec (if jump.isNone then .ready else .done) jump)) ∧
          (W3.putObj (w.heap.size + 1) (.loop (rec (if jump.isNone then .ready else .done) jump))).heap[w.heap.size]? = some (.deferred (some [])) := fun jump W3 hk3 => by
        have hl3 := hk3.2.trans hl2
        have := run_endRound (P := P) jump hl3
        rw [hrec] at this ⊢
        have hlt3 := (Array.getElem?_eq_some_iff.1 hl3).1
        exact ⟨hlt3, this, World.putObj_heap_same hlt3, (World.putObj_heap_other (by omega)).trans (hk3.1.trans hk2)⟩
      rintro e a3 W3 hp
      cases e with
      | normal =>
        obtain ⟨hk3, hi3⟩ := hp
        obtain ⟨hlt3, hr, hl4, hk4⟩ := fin2 none W3 hk3
        exact ⟨_, _, hr, .inl ⟨rfl, hYp k W3 _ hi3 hlt3, hl4, hk4⟩⟩
      | ret =>
        obtain ⟨hk3, hi3⟩ := hp
        obtain ⟨hlt3, hr, hl4, hk4⟩ := fin2 (some .ret) W3 hk3
        exact ⟨_, _, hr, .inr ⟨rfl, .ret, hXp _ k W3 _ hi3 hlt3, hl4, hk4⟩⟩
      | exit id => exact hp.elim
      | goto t => exact hp.elim
      | panic ch => exact hp.elim
      | outgrown => exact hp.elim
    · rintro e W2 ⟨⟨v, rfl⟩, (⟨k, hf, hi, hl, hk⟩ | ⟨k, hf, c, hi, hl, hk⟩)⟩
      · have hlt := (Array.getElem?_eq_some_iff.1 hl).1
        exact ⟨none, _, by have := run_endLoop (P := P) hl (by rw [hrec]; simp); rw [hrec] at this; exact this, hdone k _ hf (hIp k W2 _ hi hlt) ((World.putObj_heap_other (by omega)).trans hk)⟩
      · have hlt := (Array.getElem?_eq_some_iff.1 hl).1
        exact ⟨some c, _, by have := run_endLoop (P := P) hl (by rw [hrec]; simp); rw [hrec] at this; exact this, hstop c k _ hf (hXp c k W2 _ hi hlt) ((World.putObj_heap_other (by omega)).trans hk)⟩
end
open Go.Shelf in
def Tryz.lays137_ren : Go.Shelf.Ren := ⟨fun | 137 => 46 | 217 => 61 | 266 => 81 | n => n, fun | 9 => 9 | 5 => 5 | 3 => 3 | n => n, fun | n => n⟩
theorem Tryz.lays137 : Go.Proofs.Lays.n137 Tryz.prog Tryz.lays137_ren := {
  mixed := by kernel_rfl,
  f137 := Tryz.func46.trans (congrArg some (by kernel_rfl)),
  f217 := Tryz.func61.trans (congrArg some (by kernel_rfl)),
  f266 := Tryz.func81.trans (congrArg some (by kernel_rfl)),
  t3 := Tryz.underlying3,
  a3 := Tryz.isAgg3,
  z3 := Tryz.sizeOf3,
  v3 := Tryz.zeroValue3,
  t5 := Tryz.underlying5,
  a5 := Tryz.isAgg5,
  z5 := Tryz.sizeOf5,
  v5 := Tryz.zeroValue5,
  t9 := Tryz.underlying9,
  a9 := Tryz.isAgg9,
  z9 := Tryz.sizeOf9,
  v9 := Tryz.zeroValue9 }
theorem vQ (s : List UInt8) : bH Tryz.prog 46 [.one (.str s), .one (.int .u8 10)] (.one (.int .i64 (Lib.indexByte s 10))) := by
  refine ⟨⟨Tryz.f46, Tryz.func46, by kernel_rfl, by kernel_rfl⟩, fun C L σ w vs hP hi ha => ?_⟩
  match vs, ha with
  | [v1, v2], ⟨h1, h2, _⟩ =>
  have e1 : v1 = .string ⟨s.toArray⟩ := h1.2
  have e2 := h2.2
  subst e1
  simp only [RC0] at e2
  subst e2
  refine Calls.mono (Any.strings_IndexByte Tryz.lays137 ⟨s.toArray⟩ 10 w) fun e w' hh => ?_
  obtain ⟨e1, e2⟩ := hh
  subst e2
  exact ⟨_, e1, MORE.refl _, rfl, rfl⟩
section
open Go.RowKit Go.Shelf
attribute [local go_sem] Oper.semAt_some
set_option maxHeartbeats 2000000 in
theorem qT (n : Nat) (hn : 1 ≤ n) (s : Bs) (hs : s.length ≤ 1048576) (B : Nat) : ITC Fence.wide n Tryz.prog 45 #[.pointer (some ⟨B, 0, none⟩)] (fun k => #[.int .i64 ((k : Int) + 1), .string ⟨(cg s k).toArray⟩]) (fun k => aW s k = [])
    (fun k W => W.heap[B]? = some (.cells #[.string ⟨(aW s k).toArray⟩] 9 (0, 0))) (fun k W => W.setCell ⟨B, 0, none⟩ (.string ⟨(aW s (k + 1)).toArray⟩)) := by
  intro l J JY Jx W hJb hYb hst hY h0
  have w35 : Fence.wide.fn 46 := trivial
  refine callsIn_of_wp Tryz.func45 rfl trivial ?_ rfl
  simp only [Tryz.ntmps45, List.size_toArray, ak, aw, O, aa, Array.replicate_succ, Array.replicate_zero, List.push_toArray, List.append_toArray, ar, am]
  gi_wp2
  gi_loopw [3] (fun i wr => ∃ k : Nat, i = .int .i64 ((k : Int) + 1) ∧ J k wr) (fun i _ => s.length + 2 - (intOf i).toNat)
  case atStart => exact ⟨0, rfl, h0⟩
  case round =>
    obtain ⟨k, rfl, hJ⟩ := hrel
    have hb := hJb _ _ hJ
    have hrl := rb s k
    have cB : wr.cell? ⟨B, 0, none⟩ = some (.string ⟨(aW s k).toArray⟩) := by simp [World.cell?, hb]
    by_cases he : aW s k = []
    · gi_wp2
      go_end0
      exact ⟨⟨_, rfl⟩, .inl ⟨k, he, hJ⟩⟩
    · have he2 : (!(aW s k).isEmpty) = true := by cases h : aW s k with
        | nil => exact absurd h he
        | cons _ _ => rfl
      have hix := callsIn_wide (n := n - 1).2 (show Calls Tryz.prog 46 #[.string ⟨(aW s k).toArray⟩, .int .u8 10] wr fun e w' => e = .returned (.int .i64 (Lib.indexByte (aW s k) 10)) ∧ w' = wr from Any.strings_IndexByte Tryz.lays137 ⟨(aW s k).toArray⟩ 10 wr)
      obtain ⟨fn, tmps, assign, body, hy, hR⟩ := hY k wr hJ he
      have hk2 := iM s k he
      by_cases hi : Lib.indexByte (aW s k) 10 < 0
      · have hi2 : Lib.indexByte (aW s k) 10 = -1 := by have := Lib.indexByte_ge (aW s k) 10; omega
        have hE : lnE (aW s k) = (aW s k).length := if_pos hi
        have hx1 : (⟨(aW s k).toArray⟩ : ByteArray).extract 0 (aW s k).length = ⟨(cg s k).toArray⟩ := by rw [sO]; unfold cg; rw [hE]
        have hx2 : (⟨(aW s k).toArray⟩ : ByteArray).extract (aW s k).length (aW s k).length = ⟨(aW s (k + 1)).toArray⟩ := by rw [qb]; show _ = (⟨((aW s k).drop (lnE (aW s k))).toArray⟩ : ByteArray); rw [hE]
        have hz : (⟨(aW s (k + 1)).toArray⟩ : ByteArray) = ByteArray.empty := by show (⟨((aW s k).drop (lnE (aW s k))).toArray⟩ : ByteArray) = _; rw [hE, List.drop_length]; rfl
        rw [hi2] at hix
        clear hi hi2 hE
        gi_wp2_with (gi_at_call 46; refine hix.mono ?_; rintro e w' ⟨rfl, hw⟩; rw [hw])
        refine hR.mono ?_
        rintro e W3 (⟨rfl, hJ3⟩ | ⟨rfl, hJx⟩)
        · have b3 := hYb _ _ hJ3
          have c3 : W3.cell? ⟨B, 0, none⟩ = some (.string ⟨(aW s k).toArray⟩) := by simp [World.cell?, b3]
          have f3 : W3.frozen? ⟨B, 0, none⟩ = false := by simp [World.frozen?, b3]
          have hJ4 := hst k W3 hJ3
          try rw [hz] at hJ4
          clear b3 hJ3
          gi_wp2
          go_roundw
          case rel => exact ⟨k + 1, by simp, hJ4⟩
          case measure => simp [intOf]; omega
        · gi_wp2
          refine bodyPost_ret (results_none rfl _ _ _) rfl ?_
          exact ⟨⟨_, rfl⟩, .inr ⟨k, he, hJx⟩⟩
      · have q1 := (ge (s := aW s k) (c := 10) (by omega)).1
        obtain ⟨i, hj, hi0, hE, hel⟩ : ∃ i : Int, Lib.indexByte (aW s k) 10 = i ∧ 0 ≤ i ∧ lnE (aW s k) = (i + 1).toNat ∧ i + 1 ≤ ((aW s k).length : Int) :=
          ⟨Lib.indexByte (aW s k) 10, rfl, by omega, by unfold lnE; rw [if_neg hi]; omega, by omega⟩
        have hx1 : (⟨(aW s k).toArray⟩ : ByteArray).extract 0 (i + 1).toNat = ⟨(cg s k).toArray⟩ := by rw [sO]; unfold cg; rw [hE]
        have hx2 : (⟨(aW s k).toArray⟩ : ByteArray).extract (i + 1).toNat (aW s k).length = ⟨(aW s (k + 1)).toArray⟩ := by rw [qb]; show _ = (⟨((aW s k).drop (lnE (aW s k))).toArray⟩ : ByteArray); rw [hE]
        rw [hj] at hix
        have hi1 : i ≤ 1048575 := by omega
        clear hi hj hE q1
        gi_wp2_with (gi_at_call 46; refine hix.mono ?_; rintro e w' ⟨rfl, hw⟩; rw [hw])
        refine hR.mono ?_
        rintro e W3 (⟨rfl, hJ3⟩ | ⟨rfl, hJx⟩)
        · have b3 := hYb _ _ hJ3
          have c3 : W3.cell? ⟨B, 0, none⟩ = some (.string ⟨(aW s k).toArray⟩) := by simp [World.cell?, b3]
          have f3 : W3.frozen? ⟨B, 0, none⟩ = false := by simp [World.frozen?, b3]
          have hJ4 := hst k W3 hJ3
          try rw [hz] at hJ4
          clear b3 hJ3
          gi_wp2
          go_roundw
          case rel => exact ⟨k + 1, by simp, hJ4⟩
          case measure => simp [intOf]; omega
        · gi_wp2
          refine bodyPost_ret (results_none rfl _ _ _) rfl ?_
          exact ⟨⟨_, rfl⟩, .inr ⟨k, he, hJx⟩⟩
theorem wn (n : Nat) (x : ByteArray) (w : World) :
    CallsIn Fence.wide n Tryz.prog 28 #[.string x] w fun e w' => e = .returned (.func (.func 45) #[] #[.pointer (some ⟨w.heap.size, 0, none⟩)]) ∧ w' = w.alloc (.cells #[.string x] 9) := by
  refine callsIn_of_wp Tryz.func28 rfl trivial ?_ rfl
  simp only [Tryz.ntmps28, List.size_toArray, ak, aw, O, aa, Array.replicate_succ, Array.replicate_zero, List.push_toArray, List.append_toArray, ar, am]
  gi_wp2
  go_ret
  exact ⟨rfl, rfl⟩
end
theorem t8 (s p : Bs) (hs : s.length ≤ 9223372036854775807) : bH Tryz.prog 82 [.one (.str s), .one (.str p)] (.one (.bool (dH s p))) := by
 refine aR Tryz.func82 rfl (by kernel_rfl) (Nat.le_of_ble_eq_true rfl) rfl fun C hP hN hB => ?_
 replace hN : C.N = 21 := hN
 simp only [aX, O]
 refine af fun _ k1 => ?_
 refine ah hP hN rfl ?_
 (refine ae rfl fun _ k0 => ?_; simp only [zO, zT, acs, reduceCtorEq, V, O, Z, ad, ab, aa]; (repeat refine an ?_); (try refine .inl ?_); apply k0; clear k0; simp only [zP, O])
 refine ag ?_
 apply k1; clear k1; refine kp [0, 1, 4] ?_
 refine af fun _ k2 => ?_
 refine ah hP hN rfl ?_
 iterate 6 (refine ae rfl fun _ k0 => ?_; simp only [zO, zT, acs, reduceCtorEq, V, O, Z, ad, ab, aa]; (repeat refine an ?_); (try refine .inl ?_); apply k0; clear k0; simp only [zP, O])
 refine' aA (want := true) 9 rfl (m := 10) (by simp only [zP, V, O]; exact rfl) (by kernel_rfl) rfl rfl rfl rfl rfl (fun hg3 => ?a3) ?b3 ?c3
 case a3 =>
  have hq3 := hg3; (try simp only [zB, reduceCtorEq] at hg3); simp only [zE]
  iterate 6 (refine aQ rfl fun _ k0 => ?_; simp only [zO, zT, acs, reduceCtorEq, V, O, Z, ad, ab, aa]; (repeat refine an ?_); (try refine .inl ?_); apply k0; clear k0; simp only [zP, O])
  (refine aQ rfl fun _ k0 => ?_; simp only [zE, op1, ev, lkp, db, bB, ck, bnd, Ty.size, reduceCtorEq, V, O, Z, ad, ab, aa, Tryz.td9]; (repeat refine an ?_); (try refine .inl ?_); apply k0; clear k0; simp only [zP, O])
  iterate 2 (refine aQ rfl fun _ k0 => ?_; simp only [zO, zT, acs, reduceCtorEq, V, O, Z, ad, ab, aa]; (repeat refine an ?_); (try refine .inl ?_); apply k0; clear k0; simp only [zP, O])
  (refine ae rfl fun _ k0 => ?_; simp only [zO, zT, acs, reduceCtorEq, V, O, Z, ad, ab, aa]; (repeat refine an ?_); (try refine .inl ?_); apply k0; clear k0; simp only [zP, O])
  refine ag ?_
  refine ⟨by simp only [zP, V, O]; exact rfl, rfl, ?_, rfl⟩; (repeat refine az rfl ?_); exact aP (by exact rfl) hq3
 case b3 => exact bf
 simp only [aK, aF]
 (refine ae rfl fun _ k0 => ?_; simp only [zO, zT, acs, reduceCtorEq, V, O, Z, ad, ab, aa]; (repeat refine an ?_); (try refine .inl ?_); apply k0; clear k0; simp only [zP, O])
 refine ag ?_
 apply k2; clear k2; refine kp [0, 1, 4] ?_
 refine ax ?_
 refine ⟨nr, _, rfl, ?_⟩; simp only [zF, zP, V, O]
 refine VLE.of_eq ?_
 have e : decide ((p.length : Int) ≤ s.length) = decide (p.length ≤ s.length) := decide_eq_decide.2 Int.ofNat_le
 rw [e, aD, Int.toNat_sub]; rfl
theorem rE (s p : Bs) (hs : s.length ≤ 9223372036854775807) : bH Tryz.prog 62 [.one (.str s), .one (.str p)] (.tup [.one (.str (if dH s p = true then s.take (s.length - p.length) else s)), .one (.bool (dH s p))]) := by
 refine aR Tryz.func62 rfl (by kernel_rfl) (Nat.le_of_ble_eq_true rfl) rfl fun C hP hN hB => ?_
 replace hN : C.N = 18 := hN
 simp only [aX, O]
 refine af fun _ k1 => ?_
 refine ah hP hN rfl ?_
 iterate 2 (refine ae rfl fun _ k0 => ?_; simp only [zO, zT, acs, reduceCtorEq, V, O, Z, ad, ab, aa]; (repeat refine an ?_); (try refine .inl ?_); apply k0; clear k0; simp only [zP, O])
 refine ag ?_
 apply k1; clear k1; refine kp [0, 1, 4, 5] ?_
 refine af fun _ k2 => ?_
 refine af fun _ k3 => ?_
 refine ah hP hN rfl ?_
 iterate 2 (refine ae rfl fun _ k0 => ?_; simp only [zO, zT, acs, reduceCtorEq, V, O, Z, ad, ab, aa]; (repeat refine an ?_); (try refine .inl ?_); apply k0; clear k0; simp only [zP, O])
 refine ae rfl fun _ k0 => ?_
 refine aC (h := au (t8 s p hs)) rfl rfl (by first | exact rfl | (simp only [ev, zP, V, O]; exact rfl)) (by simp only [zV, acs, reduceCtorEq, V, O, Z, ad, ab, aa]) ?_
 apply k0; clear k0; simp only [zP, O]
 (refine ae rfl fun _ k0 => ?_; simp only [zO, zT, acs, reduceCtorEq, V, O, Z, ad, ab, aa]; (repeat refine an ?_); (try refine .inl ?_); apply k0; clear k0; simp only [zP, O])
 refine ag ?_
 apply k3; clear k3; refine kp [0, 1, 4, 5, 9] ?_
 refine cd (fun hc4 => ?_) (fun hc4 => ?_)
 ·(try simp only [zB, reduceCtorEq] at hc4)
  have hsf : dH s p = false := by simpa using hc4
  refine af fun _ k5 => ?_
  refine ah hP hN rfl ?_
  iterate 3 (refine ae rfl fun _ k0 => ?_; simp only [zO, zT, acs, reduceCtorEq, V, O, Z, ad, ab, aa]; (repeat refine an ?_); (try refine .inl ?_); apply k0; clear k0; simp only [zP, O])
  refine ag ?_
  apply k5; clear k5; refine kp [0, 1, 4, 5, 9] ?_
  refine ax ?_
  refine ⟨nr, _, rfl, ?_⟩; simp only [zF, zP, V, O]
  refine VLE.of_eq ?_
  simp only [hsf, if_true, List.drop_zero, Int.toNat_sub, Int.toNat_zero, Bool.false_eq_true, if_false]
 (try simp only [zB, reduceCtorEq] at hc4)
 have hsf : dH s p = true := by simpa using hc4
 have hle : p.length ≤ s.length := by unfold dH at hsf; simp only [Bool.and_eq_true, decide_eq_true_eq] at hsf; exact hsf.1
 refine ay ?_
 apply k2; clear k2; refine kp [0, 1, 4, 5, 9] ?_
 refine af fun _ k6 => ?_
 refine ah hP hN rfl ?_
 iterate 6 (refine ae rfl fun _ k0 => ?_; simp only [zO, zT, acs, reduceCtorEq, V, O, Z, ad, ab, aa]; (repeat refine an ?_); (try refine .inl ?_); apply k0; clear k0; simp only [zP, O])
 (refine ae rfl fun _ k0 => ?_; simp only [zE, op1, ev, lkp, db, bB, cT, j4, iv, cm, cZ, fJ, Nat.div_one, dC, dh, Ty.size, b0, dite_true, fh, bI, dx, dU, dd, ef, ck, bnd, reduceCtorEq, V, O, Z, ad, ab, aa, Tryz.td3, Tryz.td4, Tryz.td9]; (repeat refine an ?_); (try refine .inl ?_); apply k0; clear k0; simp only [zP, O])
 iterate 2 (refine ae rfl fun _ k0 => ?_; simp only [zO, zT, acs, reduceCtorEq, V, O, Z, ad, ab, aa]; (repeat refine an ?_); (try refine .inl ?_); apply k0; clear k0; simp only [zP, O])
 refine ag ?_
 apply k6; clear k6; refine kp [0, 1, 4, 5, 9] ?_
 refine ax ?_
 refine ⟨nr, _, rfl, ?_⟩; simp only [zF, zP, V, O]
 refine VLE.of_eq ?_
 simp only [hsf, if_true, List.drop_zero, Int.toNat_sub, Int.toNat_zero, Bool.false_eq_true, if_false]
theorem ub (s p : Bs) (hs : s.length ≤ 9223372036854775807) : bH Tryz.prog 47 [.one (.str s), .one (.str p)] (.tup [.one (.str (if dH s p = true then s.take (s.length - p.length) else s)), .one (.bool (dH s p))]) := by
 refine aR Tryz.func47 rfl (by kernel_rfl) (Nat.le_of_ble_eq_true rfl) rfl fun C hP hN hB => ?_
 replace hN : C.N = 11 := hN
 simp only [aX, O]
 refine af fun _ k1 => ?_
 refine ah hP hN rfl ?_
 iterate 2 (refine ae rfl fun _ k0 => ?_; simp only [zO, zT, acs, reduceCtorEq, V, O, Z, ad, ab, aa]; (repeat refine an ?_); (try refine .inl ?_); apply k0; clear k0; simp only [zP, O])
 refine ag ?_
 apply k1; clear k1; refine kp [0, 1, 4, 5] ?_
 refine af fun _ k2 => ?_
 refine ah hP hN rfl ?_
 iterate 2 (refine ae rfl fun _ k0 => ?_; simp only [zO, zT, acs, reduceCtorEq, V, O, Z, ad, ab, aa]; (repeat refine an ?_); (try refine .inl ?_); apply k0; clear k0; simp only [zP, O])
 refine ae rfl fun _ k0 => ?_
 refine aC (h := au (rE s p hs)) rfl rfl (by first | exact rfl | (simp only [ev, zP, V, O]; exact rfl)) (by simp only [zV, acs, reduceCtorEq, V, O, Z, ad, ab, aa]) ?_
 apply k0; clear k0; simp only [zP, O]
 iterate 4 (refine ae rfl fun _ k0 => ?_; simp only [zO, zT, acs, reduceCtorEq, V, O, Z, ad, ab, aa]; (repeat refine an ?_); (try refine .inl ?_); apply k0; clear k0; simp only [zP, O])
 refine ag ?_
 apply k2; clear k2; refine kp [0, 1, 4, 5] ?_
 refine ax ?_
 refine ⟨nr, _, rfl, ?_⟩; simp only [zF, zP, V, O]
 refine VLE.of_eq ?_
 rfl
theorem md (s : Bs) : bH Tryz.prog 20 [.one (.str s)] (.one (.bool (aY s))) := by
 refine aR Tryz.func20 rfl (by kernel_rfl) (Nat.le_of_ble_eq_true rfl) rfl fun C hP hN hB => ?_
 replace hN : C.N = 55 := hN
 simp only [aX, O]
 refine af fun _ k1 => ?_
 refine ah hP hN rfl ?_
 (refine ae rfl fun _ k0 => ?_; simp only [zO, zT, acs, reduceCtorEq, V, O, Z, ad, ab, aa]; (repeat refine an ?_); (try refine .inl ?_); apply k0; clear k0; simp only [zP, O])
 refine ag ?_
 apply k1; clear k1; refine kp [0, 2] ?_
 refine af fun _ k2 => ?_
 refine af fun _ k3 => ?_
 refine ah hP hN rfl ?_
 (refine ae rfl fun _ k0 => ?_; simp only [zO, zT, acs, reduceCtorEq, V, O, Z, ad, ab, aa]; (repeat refine an ?_); (try refine .inl ?_); apply k0; clear k0; simp only [zP, O])
 (refine ae rfl fun _ k0 => ?_; simp only [zE, op1, ev, lkp, db, bB, nh, reduceCtorEq, V, O, Z, ad, ab, aa, Tryz.td9]; (repeat refine an ?_); (try refine .inl ?_); apply k0; clear k0; simp only [zP, O])
 refine ag ?_
 apply k3; clear k3; refine kp [0, 2, 7] ?_
 refine aE ?_
 refine bn (fun n4 s4 => ∃ (k : Nat), (k ≤ s.length) ∧ (∀ j, j < k → okI (bt s j)) ∧ n4 = s.length - k ∧ s4 = { env := [(0, .one (.str s)), (2, .one (.bool false)), (7, .one (.ptr 0 0 0 0))], L := [.itr s k] }) ?_ ?_
 ·exact ⟨_, _, aB [0, 2, 7], 0, Nat.zero_le _, fun q hq => by omega, rfl, rfl⟩
 rintro n4 s4 ⟨k, hk, hI, rfl, rfl⟩
 refine af fun _ k5 => ?_
 refine ah hP hN rfl ?_
 (refine ae rfl fun _ k0 => ?_; simp only [zE, op1, ev, lkp, db, bB, pg, fo, reduceCtorEq, V, O, Z, ad, ab, aa, Tryz.td4]; (repeat refine an ?_); (try refine .inl ?_); apply k0; clear k0; simp only [zP, O])
 (refine ae rfl fun _ k0 => ?_; simp only [zO, zT, acs, reduceCtorEq, V, O, Z, ad, ab, aa]; (repeat refine an ?_); (try refine .inl ?_); apply k0; clear k0; simp only [zP, O])
 refine ag ?_
 apply k5; clear k5; refine kp [0, 2, 7, 8, 9] ?_
 refine af fun _ k6 => ?_
 refine cd (fun hc7 => ?_) (fun hc7 => ?_)
 ·(try simp only [zB, reduceCtorEq] at hc7)
  have hpos : k < s.length := hc7
  refine ay ?_
  apply k6; clear k6; refine kp [0, 2, 7, 8, 9] ?_
  refine aE ?_
  refine af fun _ k8 => ?_
  refine ah hP hN rfl ?_
  iterate 2 (refine ae rfl fun _ k0 => ?_; simp only [zO, zT, acs, reduceCtorEq, V, O, Z, ad, ab, aa, nt, hpos, if_true]; (repeat refine an ?_); (try refine .inl ?_); apply k0; clear k0; simp only [zP, O])
  refine ag ?_
  apply k8; clear k8; refine kp [0, 2, 4, 7, 8, 9] ?_
  refine af fun _ k9 => ?_
  refine ah hP hN rfl ?_
  iterate 3 (refine ae rfl fun _ k0 => ?_; simp only [zO, zT, acs, reduceCtorEq, V, O, Z, ad, ab, aa]; (repeat refine an ?_); (try refine .inl ?_); apply k0; clear k0; simp only [zP, O])
  refine' aA (want := true) 2 rfl (m := 13) (by simp only [zP, V, O]; exact rfl) (by kernel_rfl) rfl rfl rfl rfl rfl (fun hg10 => ?a10) ?b10 ?c10
  case a10 =>
   have hq10 := hg10; (try simp only [zB, reduceCtorEq] at hg10); simp only [zE]
   iterate 2 (refine aQ rfl fun _ k0 => ?_; simp only [zO, zT, acs, reduceCtorEq, V, O, Z, ad, ab, aa]; (repeat refine an ?_); (try refine .inl ?_); apply k0; clear k0; simp only [zP, O])
   (refine ae rfl fun _ k0 => ?_; simp only [zO, zT, acs, reduceCtorEq, V, O, Z, ad, ab, aa]; (repeat refine an ?_); (try refine .inl ?_); apply k0; clear k0; simp only [zP, O])
   refine ag ?_
   refine ⟨by simp only [zP, V, O]; exact rfl, rfl, ?_, rfl⟩; (repeat refine az rfl ?_); exact aP (by exact rfl) hq10
  case b10 => exact bf
  simp only [aK, aF]
  (refine ae rfl fun _ k0 => ?_; simp only [zO, zT, acs, reduceCtorEq, V, O, Z, ad, ab, aa]; (repeat refine an ?_); (try refine .inl ?_); apply k0; clear k0; simp only [zP, O])
  refine' aA (want := false) 6 rfl (m := 17) (by simp only [zP, V, O]; exact rfl) (by kernel_rfl) rfl rfl rfl rfl rfl (fun hg11 => ?a11) ?b11 ?c11
  case a11 =>
   have hq11 := hg11; (try simp only [zB, reduceCtorEq] at hg11); simp only [zE]
   iterate 3 (refine aQ rfl fun _ k0 => ?_; simp only [zO, zT, acs, reduceCtorEq, V, O, Z, ad, ab, aa]; (repeat refine an ?_); (try refine .inl ?_); apply k0; clear k0; simp only [zP, O])
   refine' aA (want := true) 2 rfl (m := 20) (by simp only [zP, V, O]; exact rfl) (by kernel_rfl) rfl rfl rfl rfl rfl (fun hg12 => ?a12) ?b12 ?c12
   case a12 =>
    have hq12 := hg12; (try simp only [zB, reduceCtorEq] at hg12); simp only [zE]
    iterate 3 (refine aQ rfl fun _ k0 => ?_; simp only [zO, zT, acs, reduceCtorEq, V, O, Z, ad, ab, aa]; (repeat refine an ?_); (try refine .inl ?_); apply k0; clear k0; simp only [zP, O])
    refine ag ?_
    refine ⟨by simp only [zP, V, O]; exact rfl, rfl, ?_, rfl⟩; (repeat refine az rfl ?_); exact aP (by exact rfl) hq12
   case b12 => exact bf
   simp only [aK, aF]
   (refine ae rfl fun _ k0 => ?_; simp only [zO, zT, acs, reduceCtorEq, V, O, Z, ad, ab, aa]; (repeat refine an ?_); (try refine .inl ?_); apply k0; clear k0; simp only [zP, O])
   refine ag ?_
   refine ⟨by simp only [zP, V, O]; exact rfl, rfl, ?_, rfl⟩; (repeat refine az rfl ?_); exact aP (by exact rfl) hq11
  case b11 => exact bf
  simp only [aK, aF]
  (refine ae rfl fun _ k0 => ?_; simp only [zO, zT, acs, reduceCtorEq, V, O, Z, ad, ab, aa]; (repeat refine an ?_); (try refine .inl ?_); apply k0; clear k0; simp only [zP, O])
  refine' aA (want := false) 6 rfl (m := 25) (by simp only [zP, V, O]; exact rfl) (by kernel_rfl) rfl rfl rfl rfl rfl (fun hg13 => ?a13) ?b13 ?c13
  case a13 =>
   have hq13 := hg13; (try simp only [zB, reduceCtorEq] at hg13); simp only [zE]
   iterate 3 (refine aQ rfl fun _ k0 => ?_; simp only [zO, zT, acs, reduceCtorEq, V, O, Z, ad, ab, aa]; (repeat refine an ?_); (try refine .inl ?_); apply k0; clear k0; simp only [zP, O])
   refine' aA (want := true) 2 rfl (m := 28) (by simp only [zP, V, O]; exact rfl) (by kernel_rfl) rfl rfl rfl rfl rfl (fun hg14 => ?a14) ?b14 ?c14
   case a14 =>
    have hq14 := hg14; (try simp only [zB, reduceCtorEq] at hg14); simp only [zE]
    iterate 3 (refine aQ rfl fun _ k0 => ?_; simp only [zO, zT, acs, reduceCtorEq, V, O, Z, ad, ab, aa]; (repeat refine an ?_); (try refine .inl ?_); apply k0; clear k0; simp only [zP, O])
    refine ag ?_
    refine ⟨by simp only [zP, V, O]; exact rfl, rfl, ?_, rfl⟩; (repeat refine az rfl ?_); exact aP (by exact rfl) hq14
   case b14 => exact bf
   simp only [aK, aF]
   (refine ae rfl fun _ k0 => ?_; simp only [zO, zT, acs, reduceCtorEq, V, O, Z, ad, ab, aa]; (repeat refine an ?_); (try refine .inl ?_); apply k0; clear k0; simp only [zP, O])
   refine ag ?_
   refine ⟨by simp only [zP, V, O]; exact rfl, rfl, ?_, rfl⟩; (repeat refine az rfl ?_); exact aP (by exact rfl) hq13
  case b13 => exact bf
  simp only [aK, aF]
  (refine ae rfl fun _ k0 => ?_; simp only [zO, zT, acs, reduceCtorEq, V, O, Z, ad, ab, aa]; (repeat refine an ?_); (try refine .inl ?_); apply k0; clear k0; simp only [zP, O])
  refine ag ?_
  apply k9; clear k9; refine kp [0, 2, 4, 5, 7, 8, 9] ?_
  refine af fun _ k15 => ?_
  refine ah hP hN rfl ?_
  iterate 3 (refine ae rfl fun _ k0 => ?_; simp only [zO, zT, acs, reduceCtorEq, V, O, Z, ad, ab, aa]; (repeat refine an ?_); (try refine .inl ?_); apply k0; clear k0; simp only [zP, O])
  refine' aA (want := true) 2 rfl (m := 35) (by simp only [zP, V, O]; exact rfl) (by kernel_rfl) rfl rfl rfl rfl rfl (fun hg16 => ?a16) ?b16 ?c16
  case a16 =>
   have hq16 := hg16; (try simp only [zB, reduceCtorEq] at hg16); simp only [zE]
   iterate 2 (refine aQ rfl fun _ k0 => ?_; simp only [zO, zT, acs, reduceCtorEq, V, O, Z, ad, ab, aa]; (repeat refine an ?_); (try refine .inl ?_); apply k0; clear k0; simp only [zP, O])
   (refine ae rfl fun _ k0 => ?_; simp only [zO, zT, acs, reduceCtorEq, V, O, Z, ad, ab, aa]; (repeat refine an ?_); (try refine .inl ?_); apply k0; clear k0; simp only [zP, O])
   refine ag ?_
   refine ⟨by simp only [zP, V, O]; exact rfl, rfl, ?_, rfl⟩; (repeat refine az rfl ?_); exact aP (by exact rfl) hq16
  case b16 => exact bf
  simp only [aK, aF]
  (refine ae rfl fun _ k0 => ?_; simp only [zO, zT, acs, reduceCtorEq, V, O, Z, ad, ab, aa]; (repeat refine an ?_); (try refine .inl ?_); apply k0; clear k0; simp only [zP, O])
  refine' aA (want := true) 2 rfl (m := 39) (by simp only [zP, V, O]; exact rfl) (by kernel_rfl) rfl rfl rfl rfl rfl (fun hg17 => ?a17) ?b17 ?c17
  case a17 =>
   have hq17 := hg17; (try simp only [zB, reduceCtorEq] at hg17); simp only [zE]
   iterate 2 (refine aQ rfl fun _ k0 => ?_; simp only [zO, zT, acs, reduceCtorEq, V, O, Z, ad, ab, aa]; (repeat refine an ?_); (try refine .inl ?_); apply k0; clear k0; simp only [zP, O])
   (refine ae rfl fun _ k0 => ?_; simp only [zO, zT, acs, reduceCtorEq, V, O, Z, ad, ab, aa]; (repeat refine an ?_); (try refine .inl ?_); apply k0; clear k0; simp only [zP, O])
   refine ag ?_
   refine ⟨by simp only [zP, V, O]; exact rfl, rfl, ?_, rfl⟩; (repeat refine az rfl ?_); exact aP (by exact rfl) hq17
  case b17 => exact bf
  simp only [aK, aF]
  (refine ae rfl fun _ k0 => ?_; simp only [zO, zT, acs, reduceCtorEq, V, O, Z, ad, ab, aa]; (repeat refine an ?_); (try refine .inl ?_); apply k0; clear k0; simp only [zP, O])
  refine' aA (want := true) 2 rfl (m := 43) (by simp only [zP, V, O]; exact rfl) (by kernel_rfl) rfl rfl rfl rfl rfl (fun hg18 => ?a18) ?b18 ?c18
  case a18 =>
   have hq18 := hg18; (try simp only [zB, reduceCtorEq] at hg18); simp only [zE]
   iterate 2 (refine aQ rfl fun _ k0 => ?_; simp only [zO, zT, acs, reduceCtorEq, V, O, Z, ad, ab, aa]; (repeat refine an ?_); (try refine .inl ?_); apply k0; clear k0; simp only [zP, O])
   (refine ae rfl fun _ k0 => ?_; simp only [zO, zT, acs, reduceCtorEq, V, O, Z, ad, ab, aa]; (repeat refine an ?_); (try refine .inl ?_); apply k0; clear k0; simp only [zP, O])
   refine ag ?_
   refine ⟨by simp only [zP, V, O]; exact rfl, rfl, ?_, rfl⟩; (repeat refine az rfl ?_); exact aP (by exact rfl) hq18
  case b18 => exact bf
  simp only [aK, aF]
  refine ag ?_
  apply k15; clear k15; refine kp [0, 2, 4, 5, 7, 8, 9, 46] ?_
  refine cd (fun hc19 => ?_) (fun hc19 => ?_)
  ·(try simp only [zB, reduceCtorEq] at hc19)
   have ho : ¬ okI (((dec s k).1 : Nat) : Int) := by unfold okI; omega
   refine af fun _ k20 => ?_
   refine ah hP hN rfl ?_
   (refine ae rfl fun _ k0 => ?_; simp only [zO, zT, acs, reduceCtorEq, V, O, Z, ad, ab, aa]; (repeat refine an ?_); (try refine .inl ?_); apply k0; clear k0; simp only [zP, O])
   refine ag ?_
   apply k20; clear k20; refine kp [0, 2, 4, 5, 7, 8, 9, 46] ?_
   refine ax ?_
   refine ⟨nr, _, rfl, ?_⟩; simp only [zF, zP, V, O]
   refine VLE.of_eq ?_
   refine congrArg (fun b => AV.one (AC.bool b)) ?_
   symm
   first
   | exact iL hpos (sv ho)
   | exact iP fun j hj => hI j (by omega)
  (try simp only [zB, reduceCtorEq] at hc19)
  have ho : okI (((dec s k).1 : Nat) : Int) := by unfold okI; omega
  refine ay ?_
  have hd := vP ho
  have hn : js s k = k + 1 := by unfold js; rw [if_pos hpos, hd.2]
  refine ⟨_, _, ?_, aB [0, 2, 7], js s k, by omega, fun j hj => ?_, rfl, rfl⟩
  · omega
  · by_cases e : j = k
    · rw [e]; exact hd.1
    · exact hI j (by omega)
 (try simp only [zB, reduceCtorEq] at hc7)
 refine bh ?_
 apply k2; clear k2; refine kp [0, 2, 7, 8, 9] ?_
 refine af fun _ k21 => ?_
 refine ah hP hN rfl ?_
 iterate 4 (refine ae rfl fun _ k0 => ?_; simp only [zO, zT, acs, reduceCtorEq, V, O, Z, ad, ab, aa]; (repeat refine an ?_); (try refine .inl ?_); apply k0; clear k0; simp only [zP, O])
 refine' aA (want := true) 3 rfl (m := 50) (by simp only [zP, V, O]; exact rfl) (by kernel_rfl) rfl rfl rfl rfl rfl (fun hg22 => ?a22) ?b22 ?c22
 case a22 =>
  have hq22 := hg22; (try simp only [zB, reduceCtorEq] at hg22); simp only [zE]
  iterate 3 (refine aQ rfl fun _ k0 => ?_; simp only [zO, zT, acs, reduceCtorEq, V, O, Z, ad, ab, aa]; (repeat refine an ?_); (try refine .inl ?_); apply k0; clear k0; simp only [zP, O])
  (refine ae rfl fun _ k0 => ?_; simp only [zO, zT, acs, reduceCtorEq, V, O, Z, ad, ab, aa]; (repeat refine an ?_); (try refine .inl ?_); apply k0; clear k0; simp only [zP, O])
  refine ag ?_
  refine ⟨by simp only [zP, V, O]; exact rfl, rfl, ?_, rfl⟩; (repeat refine az rfl ?_); exact aP (by exact rfl) hq22
 case b22 => exact bf
 simp only [aK, aF]
 (refine ae rfl fun _ k0 => ?_; simp only [zO, zT, acs, reduceCtorEq, V, O, Z, ad, ab, aa]; (repeat refine an ?_); (try refine .inl ?_); apply k0; clear k0; simp only [zP, O])
 refine ag ?_
 apply k21; clear k21; refine kp [0, 2, 7, 8, 9] ?_
 refine ax ?_
 refine ⟨nr, _, rfl, ?_⟩; simp only [zF, zP, V, O]
 refine VLE.of_eq ?_
 refine congrArg (fun b => AV.one (AC.bool b)) ?_
 symm
 first
 | exact iL hpos (sv ho)
 | exact iP fun j hj => hI j (by omega)
theorem gp (xs : List Bs) (x : Bs) : bH Tryz.prog 58 [.one (.list .str xs), .one (.str x)] (.one (.int .i64 (if x ∈ xs then (pos xs x : Int) else -1))) := by
 refine aR Tryz.func58 rfl (by kernel_rfl) (Nat.le_of_ble_eq_true rfl) rfl fun C hP hN hB => ?_
 replace hN : C.N = 19 := hN
 simp only [aX, O]
 refine gx 0 rfl fun hf0 => ?_; simp only [lkp, if_true, if_false, reduceCtorEq, V, eq_self, Nat.one_ne_zero, Nat.zero_ne_one, lz, kw, kg, Fit, and_true, implies_true, true_and] at hf0
 refine af fun _ k1 => ?_
 refine ah hP hN rfl ?_
 (refine ae rfl fun _ k0 => ?_; simp only [zO, zT, acs, reduceCtorEq, V, O, Z, ad, ab, aa]; (repeat refine an ?_); (try refine .inl ?_); apply k0; clear k0; simp only [zP, O])
 refine ag ?_
 apply k1; clear k1; refine kp [0, 1, 4] ?_
 refine af fun _ k2 => ?_
 refine af fun _ k3 => ?_
 refine ah hP hN rfl ?_
 iterate 3 (refine ae rfl fun _ k0 => ?_; simp only [zO, zT, acs, reduceCtorEq, V, O, Z, ad, ab, aa]; (repeat refine an ?_); (try refine .inl ?_); apply k0; clear k0; simp only [zP, O])
 refine ag ?_
 apply k3; clear k3; refine kp [0, 1, 4, 7, 8] ?_
 refine aE ?_
 refine bn (fun n4 s4 => ∃ (k : Nat), (k ≤ xs.length) ∧ (∀ q, q < k → xs.getD q [] ≠ x) ∧ n4 = xs.length - k ∧ s4 = { env := [(0, .one (.list .str xs)), (1, .one (.str x)), (4, .one (.int .i64 0)), (7, .one (.int .i64 (xs.length : Int))), (8, .one (.int .i64 (k : Int)))], L := [] }) ?_ ?_
 ·exact ⟨_, _, aB [0, 1, 4, 7, 8], 0, Nat.zero_le _, fun q hq => by omega, rfl, rfl⟩
 rintro n4 s4 ⟨k, hk, hq, rfl, rfl⟩
 refine af fun _ k5 => ?_
 refine ah hP hN rfl ?_
 (refine ae rfl fun _ k0 => ?_; simp only [zO, zT, acs, reduceCtorEq, V, O, Z, ad, ab, aa]; (repeat refine an ?_); (try refine .inl ?_); apply k0; clear k0; simp only [zP, O])
 refine ag ?_
 apply k5; clear k5; refine kp [0, 1, 4, 7, 8, 9] ?_
 refine af fun _ k6 => ?_
 refine cd (fun hc7 => ?_) (fun hc7 => ?_)
 ·(try simp only [zB, reduceCtorEq] at hc7)
  refine ay ?_
  apply k6; clear k6; refine kp [0, 1, 4, 7, 8, 9] ?_
  refine af fun _ k8 => ?_
  refine aE ?_
  refine af fun _ k9 => ?_
  refine ah hP hN rfl ?_
  iterate 2 (refine ae rfl fun _ k0 => ?_; simp only [zO, zT, acs, reduceCtorEq, V, O, Z, ad, ab, aa]; (repeat refine an ?_); (try refine .inl ?_); apply k0; clear k0; simp only [zP, O])
  refine ag ?_
  apply k9; clear k9; refine kp [0, 1, 4, 5, 7, 8, 9] ?_
  refine af fun _ k10 => ?_
  refine ah hP hN rfl ?_
  iterate 6 (refine ae rfl fun _ k0 => ?_; simp only [zO, zT, acs, reduceCtorEq, V, O, Z, ad, ab, aa]; (repeat refine an ?_); (try refine .inl ?_); apply k0; clear k0; simp only [zP, O])
  refine ag ?_
  apply k10; clear k10; refine kp [0, 1, 4, 5, 7, 8, 9, 16] ?_
  refine cd (fun hc11 => ?_) (fun hc11 => ?_)
  ·(try simp only [zB, reduceCtorEq] at hc11)
   have hme : xs.getD k [] = x := by first | exact hc11 | exact (hc11).symm
   refine af fun _ k12 => ?_
   refine ah hP hN rfl ?_
   iterate 2 (refine ae rfl fun _ k0 => ?_; simp only [zO, zT, acs, reduceCtorEq, V, O, Z, ad, ab, aa]; (repeat refine an ?_); (try refine .inl ?_); apply k0; clear k0; simp only [zP, O])
   refine ag ?_
   apply k12; clear k12; refine kp [0, 1, 4, 5, 7, 8, 9, 16] ?_
   refine ax ?_
   refine ⟨nr, _, rfl, ?_⟩; simp only [zF, zP, V, O]
   refine VLE.of_eq ?_
   refine congrArg (fun n => AV.one (AC.int IntKind.i64 n)) ?_
   symm
   first
   | (have g9 := km (fun q hq2 => hq q hq2) (by omega) hme; obtain ⟨g1, g2⟩ := g9; rw [if_pos g2, g1]; done)
   | (rw [if_neg (nj fun q hq2 => hq q (by omega))]; done)
  (try simp only [zB, reduceCtorEq] at hc11)
  have hne : xs.getD k [] ≠ x := by first | exact hc11 | exact Ne.symm hc11
  refine ay ?_
  apply k8; clear k8; refine kp [0, 1, 4, 5, 7, 8, 9, 16] ?_
  refine ah hP hN rfl ?_
  iterate 2 (refine ae rfl fun _ k0 => ?_; simp only [zO, zT, acs, reduceCtorEq, V, O, Z, ad, ab, aa]; (repeat refine an ?_); (try refine .inl ?_); apply k0; clear k0; simp only [zP, O])
  refine ag ?_
  refine ⟨_, _, ?_, aB [0, 1, 4, 7, 8], k + 1, by omega, fun q hq2 => ?_, rfl, rfl⟩
  · omega
  · by_cases e : q = k
    · rw [e]; exact hne
    · exact hq q (by omega)
 (try simp only [zB, reduceCtorEq] at hc7)
 refine bh ?_
 apply k2; clear k2; refine kp [0, 1, 4, 7, 8, 9] ?_
 refine af fun _ k13 => ?_
 refine ah hP hN rfl ?_
 (refine ae rfl fun _ k0 => ?_; simp only [zO, zT, acs, reduceCtorEq, V, O, Z, ad, ab, aa]; (repeat refine an ?_); (try refine .inl ?_); apply k0; clear k0; simp only [zP, O])
 refine ag ?_
 apply k13; clear k13; refine kp [0, 1, 4, 7, 8, 9] ?_
 refine ax ?_
 refine ⟨nr, _, rfl, ?_⟩; simp only [zF, zP, V, O]
 refine VLE.of_eq ?_
 refine congrArg (fun n => AV.one (AC.int IntKind.i64 n)) ?_
 symm
 first
 | (have g9 := km (fun q hq2 => hq q hq2) (by omega) hme; obtain ⟨g1, g2⟩ := g9; rw [if_pos g2, g1]; done)
 | (rw [if_neg (nj fun q hq2 => hq q (by omega))]; done)
theorem gO (xs : List Bs) (x : Bs) : bH Tryz.prog 40 [.one (.list .str xs), .one (.str x)] (.one (.bool (decide (x ∈ xs)))) := by
 refine aR Tryz.func40 rfl (by kernel_rfl) (Nat.le_of_ble_eq_true rfl) rfl fun C hP hN hB => ?_
 replace hN : C.N = 9 := hN
 simp only [aX, O]
 refine af fun _ k1 => ?_
 refine ah hP hN rfl ?_
 (refine ae rfl fun _ k0 => ?_; simp only [zO, zT, acs, reduceCtorEq, V, O, Z, ad, ab, aa]; (repeat refine an ?_); (try refine .inl ?_); apply k0; clear k0; simp only [zP, O])
 refine ag ?_
 apply k1; clear k1; refine kp [0, 1, 4] ?_
 refine af fun _ k2 => ?_
 refine ah hP hN rfl ?_
 iterate 2 (refine ae rfl fun _ k0 => ?_; simp only [zO, zT, acs, reduceCtorEq, V, O, Z, ad, ab, aa]; (repeat refine an ?_); (try refine .inl ?_); apply k0; clear k0; simp only [zP, O])
 refine ae rfl fun _ k0 => ?_
 refine aC (h := au (gp xs x)) rfl rfl (by first | exact rfl | (simp only [ev, zP, V, O]; exact rfl)) (by simp only [zV, acs, reduceCtorEq, V, O, Z, ad, ab, aa]) ?_
 apply k0; clear k0; simp only [zP, O]
 iterate 2 (refine ae rfl fun _ k0 => ?_; simp only [zO, zT, acs, reduceCtorEq, V, O, Z, ad, ab, aa]; (repeat refine an ?_); (try refine .inl ?_); apply k0; clear k0; simp only [zP, O])
 refine ag ?_
 apply k2; clear k2; refine kp [0, 1, 4] ?_
 refine ax ?_
 refine ⟨nr, _, rfl, ?_⟩; simp only [zF, zP, V, O]
 refine VLE.of_eq ?_
 refine congrArg (fun b => AV.one (AC.bool b)) ?_
 by_cases h : x ∈ xs
 · rw [if_pos h]; simp [h]
 · rw [if_neg h]; simp [h]
theorem jg (xs : List Bs) : bH Tryz.prog 21 [.agg [.list .str xs]] (.one (.int .i64 (alE xs))) := by
 refine aR Tryz.func21 rfl (by kernel_rfl) (Nat.le_of_ble_eq_true rfl) rfl fun C hP hN hB => ?_
 replace hN : C.N = 33 := hN
 simp only [aX, O]
 refine af fun _ k1 => ?_
 refine ah hP hN rfl ?_
 iterate 2 (refine ae rfl fun _ k0 => ?_; simp only [zO, zT, acs, reduceCtorEq, V, O, Z, ad, ab, aa]; (repeat refine an ?_); (try refine .inl ?_); apply k0; clear k0; simp only [zP, O])
 refine ag ?_
 apply k1; clear k1; refine kp [0, 1, 2] ?_
 refine af fun _ k2 => ?_
 refine aE ?_
 refine af fun _ k3 => ?_
 refine ah hP hN rfl ?_
 iterate 5 (refine ae rfl fun _ k0 => ?_; simp only [zO, zT, acs, reduceCtorEq, V, O, Z, ad, ab, aa]; (repeat refine an ?_); (try refine .inl ?_); apply k0; clear k0; simp only [zP, O])
 refine ag ?_
 apply k3; clear k3; refine kp [0, 1, 2, 5] ?_
 refine cd (fun hc4 => ?_) (fun hc4 => ?_)
 ·(try simp only [zB, reduceCtorEq] at hc4)
  refine af fun _ k5 => ?_
  refine ah hP hN rfl ?_
  (refine ae rfl fun _ k0 => ?_; simp only [zO, zT, acs, reduceCtorEq, V, O, Z, ad, ab, aa]; (repeat refine an ?_); (try refine .inl ?_); apply k0; clear k0; simp only [zP, O])
  refine ag ?_
  apply k5; clear k5; refine kp [0, 1, 2, 5] ?_
  refine ax ?_
  refine ⟨nr, _, rfl, ?_⟩; simp only [zF, zP, V, O]
  refine VLE.of_eq ?_
  refine congrArg (fun n => AV.one (AC.int IntKind.i64 n)) ?_
  symm
  first
  | exact fX (by omega)
  | exact eF (by omega) (by omega)
  | exact fZ (by omega) (by omega) (k := k) (by omega) hq hbad
  | exact fW (by omega) (by omega) (k := k) (by omega) hq hgood hin
  | exact dK (by omega) (by omega) fun q hq2 => hq q (by omega)
 (try simp only [zB, reduceCtorEq] at hc4)
 refine af fun _ k6 => ?_
 refine ah hP hN rfl ?_
 iterate 5 (refine ae rfl fun _ k0 => ?_; simp only [zO, zT, acs, reduceCtorEq, V, O, Z, ad, ab, aa]; (repeat refine an ?_); (try refine .inl ?_); apply k0; clear k0; simp only [zP, O])
 refine ag ?_
 apply k6; clear k6; refine kp [0, 1, 2, 5, 10] ?_
 refine cd (fun hc7 => ?_) (fun hc7 => ?_)
 ·(try simp only [zB, reduceCtorEq] at hc7)
  refine af fun _ k8 => ?_
  refine ah hP hN rfl ?_
  (refine ae rfl fun _ k0 => ?_; simp only [zO, zT, acs, reduceCtorEq, V, O, Z, ad, ab, aa]; (repeat refine an ?_); (try refine .inl ?_); apply k0; clear k0; simp only [zP, O])
  refine ag ?_
  apply k8; clear k8; refine kp [0, 1, 2, 5, 10] ?_
  refine ax ?_
  refine ⟨nr, _, rfl, ?_⟩; simp only [zF, zP, V, O]
  refine VLE.of_eq ?_
  refine congrArg (fun n => AV.one (AC.int IntKind.i64 n)) ?_
  symm
  first
  | exact fX (by omega)
  | exact eF (by omega) (by omega)
  | exact fZ (by omega) (by omega) (k := k) (by omega) hq hbad
  | exact fW (by omega) (by omega) (k := k) (by omega) hq hgood hin
  | exact dK (by omega) (by omega) fun q hq2 => hq q (by omega)
 (try simp only [zB, reduceCtorEq] at hc7)
 refine ay ?_
 apply k2; clear k2; refine kp [0, 1, 2, 5, 10] ?_
 refine af fun _ k9 => ?_
 refine af fun _ k10 => ?_
 refine ah hP hN rfl ?_
 iterate 4 (refine ae rfl fun _ k0 => ?_; simp only [zO, zT, acs, reduceCtorEq, V, O, Z, ad, ab, aa]; (repeat refine an ?_); (try refine .inl ?_); apply k0; clear k0; simp only [zP, O])
 refine ag ?_
 apply k10; clear k10; refine kp [0, 1, 2, 5, 10, 16, 17, 18] ?_
 refine aE ?_
 refine bn (fun n11 s11 => ∃ (k : Nat), (k ≤ xs.length) ∧ (∀ q, q < k → nmE xs q = 0) ∧ n11 = xs.length - k ∧ s11 = { env := [(1, .one (.ptr 0 0 0 0)), (2, .one (.int .i64 0)), (16, .one (.list .str xs)), (17, .one (.int .i64 (xs.length : Int))), (18, .one (.int .i64 (k : Int)))], L := [.vars 24 [.list .str xs]] }) ?_ ?_
 ·exact ⟨_, _, aB [1, 2, 16, 17, 18], 0, Nat.zero_le _, fun q hq => by omega, rfl, rfl⟩
 rintro n11 s11 ⟨k, hk, hq, rfl, rfl⟩
 refine af fun _ k12 => ?_
 refine ah hP hN rfl ?_
 (refine ae rfl fun _ k0 => ?_; simp only [zO, zT, acs, reduceCtorEq, V, O, Z, ad, ab, aa]; (repeat refine an ?_); (try refine .inl ?_); apply k0; clear k0; simp only [zP, O])
 refine ag ?_
 apply k12; clear k12; refine kp [1, 2, 16, 17, 18, 19] ?_
 refine af fun _ k13 => ?_
 refine cd (fun hc14 => ?_) (fun hc14 => ?_)
 ·(try simp only [zB, reduceCtorEq] at hc14)
  refine ay ?_
  apply k13; clear k13; refine kp [1, 2, 16, 17, 18, 19] ?_
  refine af fun _ k15 => ?_
  refine aE ?_
  refine af fun _ k16 => ?_
  refine ah hP hN rfl ?_
  iterate 5 (refine ae rfl fun _ k0 => ?_; simp only [zO, zT, acs, reduceCtorEq, V, O, Z, ad, ab, aa]; (repeat refine an ?_); (try refine .inl ?_); apply k0; clear k0; simp only [zP, O])
  refine ag ?_
  apply k16; clear k16; refine kp [1, 2, 3, 4, 16, 17, 18, 19] ?_
  refine af fun _ k17 => ?_
  refine af fun _ k18 => ?_
  refine ah hP hN rfl ?_
  (refine ae rfl fun _ k0 => ?_; simp only [zO, zT, acs, reduceCtorEq, V, O, Z, ad, ab, aa]; (repeat refine an ?_); (try refine .inl ?_); apply k0; clear k0; simp only [zP, O])
  refine ae rfl fun _ k0 => ?_
  refine aC (h := au (md (xs.getD k []))) rfl rfl (by first | exact rfl | (simp only [ev, zP, V, O]; exact rfl)) (by simp only [zV, acs, reduceCtorEq, V, O, Z, ad, ab, aa]) ?_
  apply k0; clear k0; simp only [zP, O]
  (refine ae rfl fun _ k0 => ?_; simp only [zO, zT, acs, reduceCtorEq, V, O, Z, ad, ab, aa]; (repeat refine an ?_); (try refine .inl ?_); apply k0; clear k0; simp only [zP, O])
  refine ag ?_
  apply k18; clear k18; refine kp [1, 2, 3, 4, 16, 17, 18, 19, 25] ?_
  refine cd (fun hc19 => ?_) (fun hc19 => ?_)
  ·(try simp only [zB, reduceCtorEq] at hc19)
   have hbad : aY (xs.getD k []) = false := by simpa using hc19
   refine af fun _ k20 => ?_
   refine ah hP hN rfl ?_
   (refine ae rfl fun _ k0 => ?_; simp only [zO, zT, acs, reduceCtorEq, V, O, Z, ad, ab, aa]; (repeat refine an ?_); (try refine .inl ?_); apply k0; clear k0; simp only [zP, O])
   refine ag ?_
   apply k20; clear k20; refine kp [1, 2, 3, 4, 16, 17, 18, 19, 25] ?_
   refine ax ?_
   refine ⟨nr, _, rfl, ?_⟩; simp only [zF, zP, V, O]
   refine VLE.of_eq ?_
   refine congrArg (fun n => AV.one (AC.int IntKind.i64 n)) ?_
   symm
   first
   | exact fX (by omega)
   | exact eF (by omega) (by omega)
   | exact fZ (by omega) (by omega) (k := k) (by omega) hq hbad
   | exact fW (by omega) (by omega) (k := k) (by omega) hq hgood hin
   | exact dK (by omega) (by omega) fun q hq2 => hq q (by omega)
  (try simp only [zB, reduceCtorEq] at hc19)
  have hgood : aY (xs.getD k []) = true := by simpa using hc19
  refine ay ?_
  apply k17; clear k17; refine kp [1, 2, 3, 4, 16, 17, 18, 19, 25] ?_
  refine af fun _ k21 => ?_
  refine ah hP hN rfl ?_
  iterate 3 (refine ae rfl fun _ k0 => ?_; simp only [zO, zT, acs, reduceCtorEq, V, O, Z, ad, ab, aa, List.drop_zero, aN, Int.toNat_zero]; (repeat refine an ?_); (try refine .inl ?_); apply k0; clear k0; simp only [zP, O])
  (refine ae rfl fun _ k0 => ?_; simp only [zE, op1, ev, lkp, db, bB, ci, iE, Nat.mul_one, ca, dL, acs, Ty.dflt, zG, cF, ck, bnd, Ty.size, reduceCtorEq, V, O, Z, ad, ab, aa, Tryz.el22, Tryz.st24, Tryz.td22, Tryz.td24, Tryz.td3, Tryz.td9, List.drop_zero, aN, Int.toNat_zero]; (repeat refine an ?_); (try refine .inl ?_); apply k0; clear k0; simp only [zP, O])
  (refine ae rfl fun _ k0 => ?_; simp only [zO, zT, acs, reduceCtorEq, V, O, Z, ad, ab, aa, List.drop_zero, aN, Int.toNat_zero]; (repeat refine an ?_); (try refine .inl ?_); apply k0; clear k0; simp only [zP, O])
  refine ae rfl fun _ k0 => ?_
  refine aC (h := au (gO (xs.take k) (xs.getD k []))) rfl rfl (by first | exact rfl | (simp only [ev, zP, V, O]; exact rfl)) (by simp only [zV, acs, reduceCtorEq, V, O, Z, ad, ab, aa, List.drop_zero, aN, Int.toNat_zero]) ?_
  apply k0; clear k0; simp only [zP, O]
  refine ag ?_
  apply k21; clear k21; refine kp [1, 2, 3, 4, 16, 17, 18, 19, 25, 31] ?_
  refine cd (fun hc22 => ?_) (fun hc22 => ?_)
  ·(try simp only [zB, reduceCtorEq] at hc22)
   have hin : xs.getD k [] ∈ xs.take k := by simpa using hc22
   refine af fun _ k23 => ?_
   refine ah hP hN rfl ?_
   (refine ae rfl fun _ k0 => ?_; simp only [zO, zT, acs, reduceCtorEq, V, O, Z, ad, ab, aa]; (repeat refine an ?_); (try refine .inl ?_); apply k0; clear k0; simp only [zP, O])
   refine ag ?_
   apply k23; clear k23; refine kp [1, 2, 3, 4, 16, 17, 18, 19, 25, 31] ?_
   refine ax ?_
   refine ⟨nr, _, rfl, ?_⟩; simp only [zF, zP, V, O]
   refine VLE.of_eq ?_
   refine congrArg (fun n => AV.one (AC.int IntKind.i64 n)) ?_
   symm
   first
   | exact fX (by omega)
   | exact eF (by omega) (by omega)
   | exact fZ (by omega) (by omega) (k := k) (by omega) hq hbad
   | exact fW (by omega) (by omega) (k := k) (by omega) hq hgood hin
   | exact dK (by omega) (by omega) fun q hq2 => hq q (by omega)
  (try simp only [zB, reduceCtorEq] at hc22)
  have hnin : xs.getD k [] ∉ xs.take k := by simpa using hc22
  refine ay ?_
  apply k15; clear k15; refine kp [1, 2, 3, 4, 16, 17, 18, 19, 25, 31] ?_
  refine ah hP hN rfl ?_
  iterate 2 (refine ae rfl fun _ k0 => ?_; simp only [zO, zT, acs, reduceCtorEq, V, O, Z, ad, ab, aa]; (repeat refine an ?_); (try refine .inl ?_); apply k0; clear k0; simp only [zP, O])
  refine ag ?_
  refine ⟨_, _, ?_, aB [1, 2, 16, 17, 18], k + 1, by omega, fun q hq2 => ?_, rfl, rfl⟩
  · omega
  · by_cases e : q = k
    · rw [e]; exact jh hgood hnin
    · exact hq q (by omega)
 (try simp only [zB, reduceCtorEq] at hc14)
 refine bh ?_
 apply k9; clear k9; refine kp [1, 2, 16, 17, 18, 19] ?_
 refine af fun _ k24 => ?_
 refine ah hP hN rfl ?_
 (refine ae rfl fun _ k0 => ?_; simp only [zO, zT, acs, reduceCtorEq, V, O, Z, ad, ab, aa]; (repeat refine an ?_); (try refine .inl ?_); apply k0; clear k0; simp only [zP, O])
 refine ag ?_
 apply k24; clear k24; refine kp [1, 2, 16, 17, 18, 19] ?_
 refine ax ?_
 refine ⟨nr, _, rfl, ?_⟩; simp only [zF, zP, V, O]
 refine VLE.of_eq ?_
 refine congrArg (fun n => AV.one (AC.int IntKind.i64 n)) ?_
 symm
 first
 | exact fX (by omega)
 | exact eF (by omega) (by omega)
 | exact fZ (by omega) (by omega) (k := k) (by omega) hq hbad
 | exact fW (by omega) (by omega) (k := k) (by omega) hq hgood hin
 | exact dK (by omega) (by omega) fun q hq2 => hq q (by omega)
section
open Go.RowKit
open Go.Shelf in
def Tryz.lays212_ren : Go.Shelf.Ren := ⟨fun | 212 => 111 | 263 => 115 | 264 => 116 | n => n, fun | 46 => 103 | 51 => 120 | 146 => 155 | 53 => 122 | 148 => 158 | n => n, fun | n => n⟩
theorem Tryz.lays212 : Go.Proofs.Lays.n212 Tryz.prog Tryz.lays212_ren := {
  mixed := by kernel_rfl,
  f212 := Tryz.func111.trans (congrArg some (by kernel_rfl)),
  f263 := Tryz.func115.trans (congrArg some (by kernel_rfl)),
  f264 := Tryz.func116.trans (congrArg some (by kernel_rfl)),
  t46 := Tryz.underlying103,
  a46 := Tryz.isAgg103,
  z46 := Tryz.sizeOf103,
  v46 := Tryz.zeroValue103,
  t51 := Tryz.underlying120,
  a51 := Tryz.isAgg120,
  z51 := Tryz.sizeOf120,
  v51 := Tryz.zeroValue120,
  t53 := Tryz.underlying122,
  a53 := Tryz.isAgg122,
  z53 := Tryz.sizeOf122,
  v53 := Tryz.zeroValue122,
  t146 := Tryz.underlying155,
  a146 := Tryz.isAgg155,
  z146 := Tryz.sizeOf155,
  v146 := Tryz.zeroValue155,
  t148 := Tryz.underlying158,
  a148 := Tryz.isAgg158,
  z148 := Tryz.sizeOf158,
  v148 := Tryz.zeroValue158 }
theorem rj {P : Program} {I S : TypeId} (hu : P.underlying S = some (.slice I)) (hs : (P.info? I).map (·.size) = some 1) (W : World) (g b o c n dc : Nat) (ty : TypeId) (h1 : 1 ≤ n) (cur : Array Value) (t : TypeId) (hg : W.heap[g]? = some (.cells cur t (0, 0))) (hz : cur.size = n) (v : Value) (hv : v.oneCell' = true) (hc : W.cell? ⟨b, o, none⟩ = some v) :
    (Builtin.copy_ #[S, S] ty #[.slice (some ⟨g, 0, none⟩) n dc, .slice (some ⟨b, o, none⟩) 1 c]).run P W = .ok (goInt 1) (W.setRow g (v :: cur.toList.drop 1).toArray) := by
  have := run_copy_row (P := P) W S S ty I g 0 n dc ⟨b, o, none⟩ 1 c cur t [v] hu hs hg (by simp [Nat.min_def]; omega) (fun j u hj => by
    cases j with
    | zero => simp at hj; subst hj; exact hc
    | succ j => simp at hj) (by simp; omega) (by simpa using hv)
  simpa using this
def dr (n k : Nat) : Array Value := (List.replicate k (Value.int .i64 (-1)) ++ List.replicate (n - k) (Value.int .i64 0)).toArray
def sl (n k : Nat) (W0 W : World) : Prop := Below W0.heap.size W0 W ∧ W.heap[W0.heap.size]? = some (.cells (dr n k) 3 (0, 0))
theorem kZ {n k : Nat} (h : k ≤ n) : (dr n k).toList.length = n := by unfold dr; simp; omega
theorem w8 (n : Nat) : madeCells #[Value.int IntKind.i64 0] n = dr n 0 := by
  unfold madeCells dr
  simp only [List.replicate_zero, ar, Nat.sub_zero, List.size_toArray, ak, aw, Nat.zero_add, Nat.mod_one]
  apply Array.ext
  · simp
  · intro i h1 h2
    simp
theorem vR {n : Nat} (h : 1 ≤ n) : (Value.int IntKind.i64 (-1) :: (dr n 0).toList.drop 1).toArray = dr n 1 := by
  obtain ⟨m, rfl⟩ : ∃ m, n = m + 1 := ⟨n - 1, by omega⟩
  unfold dr
  simp [List.replicate_succ]
theorem rW {P : Program} {I S : TypeId} (hu : P.underlying S = some (.slice I)) (hs : (P.info? I).map (·.size) = some 1) (W : World) (g n k dc sc : Nat) (ty : TypeId) (h1 : 1 ≤ k) (h2 : k < n) (t : TypeId) (hg : W.heap[g]? = some (.cells (dr n k) t (0, 0))) :
    (Builtin.copy_ #[S, S] ty #[.slice (some ⟨g, k, none⟩) (n - k) dc, .slice (some ⟨g, 0, none⟩) k sc]).run P W = .ok (goInt (Nat.min k (n - k))) (W.setRow g (dr n (k + Nat.min k (n - k)))) := by
  have hm : Nat.min k (n - k) ≤ k ∧ Nat.min k (n - k) ≤ n - k := ⟨Nat.min_le_left _ _, Nat.min_le_right _ _⟩
  have := run_copy_row (P := P) W S S ty I g k (n - k) dc ⟨g, 0, none⟩ k sc (dr n k) t (List.replicate (Nat.min k (n - k)) (Value.int .i64 (-1))) hu hs hg (by simp) (fun j u hj => by
    have hj2 : j < Nat.min k (n - k) ∧ u = Value.int .i64 (-1) := by
      rw [List.getElem?_replicate] at hj
      split at hj
      · exact ⟨by assumption, by cases hj; rfl⟩
      · cases hj
    obtain ⟨hj2, rfl⟩ := hj2
    have hjk : j < k := by omega
    rw [Addr.add_lit, Nat.zero_add]
    simp [World.cell?, hg, dr, List.getElem?_append, hjk]) (by have := kZ (n := n) (k := k) (by omega); simp at this ⊢; omega) (by intro v hv; rw [(List.mem_replicate.1 hv).2]; rfl)
  rw [this]
  congr 2
  · simp
  · unfold dr
    simp only [aL, List.toList_toArray]
    have e1 : List.take k (List.replicate k (Value.int .i64 (-1)) ++ List.replicate (n - k) (Value.int .i64 0)) = List.replicate k (Value.int .i64 (-1)) := by
      rw [List.take_append_of_le_length (by simp)]; simp
    have e2 : List.drop (k + Nat.min k (n - k)) (List.replicate k (Value.int .i64 (-1)) ++ List.replicate (n - k) (Value.int .i64 0)) = List.replicate (n - (k + Nat.min k (n - k))) (Value.int .i64 0) := by
      rw [List.drop_append, List.drop_of_length_le (by simp), ar, List.drop_replicate]; congr 1; simp; omega
    rw [e1, e2, List.replicate_append_replicate]

theorem qg (w : World) (o : Obj) : (w.alloc o).heap[w.heap.size]? = some o := Array.getElem?_push_size
set_option maxHeartbeats 1000000 in
theorem wd (b o c n : Nat) (w : World) (h1 : 1 ≤ n) (hn : n ≤ 1000) (hc : w.cell? ⟨b, o, none⟩ = some (.int .i64 (-1))) :
    Calls Tryz.prog 101 #[.slice (some ⟨b, o, none⟩) 1 c, .int .i64 n] w fun e w' => e = .returned (.slice (some ⟨w.heap.size, 0, none⟩) n n) ∧ sl n n w w' := by
  have hm := fun W => Any.bits_Mul Tryz.lays212 1 n (by omega) (by omega) W
  have e1 : 1 * n / 18446744073709551616 = 0 := by omega
  have e2 : 1 * n % 18446744073709551616 = n := by omega
  simp only [e1, e2] at hm
  clear e1 e2
  have hmk := run_make_row' (P := Tryz.prog) 45 3 (.int .i64 0) 8 Tryz.underlying45 (by kernel_rfl) rfl .i64 .i64 n (by omega) (by omega)
  have hb : b < w.heap.size := World.block_lt_of_cell? _ _ hc
  have hsz : (Tryz.prog.info? 3).map (·.size) = some 1 := by kernel_rfl
  obtain ⟨w1, hw1⟩ : ∃ w1, w.alloc (.cells (madeCells #[Value.int .i64 0] n) 3) = w1 := ⟨_, rfl⟩
  obtain ⟨w2, hw2⟩ : ∃ w2, w1.setRow w.heap.size (dr n 1) = w2 := ⟨_, rfl⟩
  have hg1 : w1.heap[w.heap.size]? = some (.cells (dr n 0) 3 (0, 0)) := by rw [← hw1, ← w8]; exact qg w _
  have hb1 : Below w.heap.size w w1 := by rw [← hw1]; exact (Below.refl _ w).alloc (Nat.le_refl _) _
  have hO : sl n 1 w w2 := by
    rw [← hw2]
    exact ⟨below_setRow hb1 (Nat.le_refl _) _, setRow_heap w1 _ _ _ 3 _ hg1⟩
  have hcp : (Builtin.copy_ #[45, 45] 3 #[.slice (some ⟨w.heap.size, 0, none⟩) n n, .slice (some ⟨b, o, none⟩) 1 c]).run Tryz.prog w1 = .ok (goInt 1) w2 := by
    rw [← hw2, ← vR h1]
    exact rj Tryz.underlying45 hsz w1 w.heap.size b o c n n 3 h1 (dr n 0) 3 hg1 (by have := kZ (n := n) (k := 0) (by omega); simpa using this) _ rfl ((hb1.cell (p := ⟨b, o, none⟩) hb).trans hc)
  have mixed := Tryz.mixed
  go_enter Tryz.func101, Tryz.ntmps101
  go_wp2_with (go_at_call 111; refine (hm _).mono ?_; rintro e w' ⟨rfl, hw⟩; rw [hw])
  clear hmk hm hcp hw1 hw2 hg1
  have HO := Lib.hid hO
  clear hO
  go_loopw [8] (fun i wr => ∃ k : Nat, 1 ≤ k ∧ k ≤ n ∧ i = .int .i64 k ∧ sl n k w wr) (fun i _ => n - (intOf i).toNat)
  case atStart => exact ⟨1, Nat.le_refl _, h1, rfl, HO.out⟩
  case round =>
    obtain ⟨k, hk1, hkn, rfl, hrel⟩ := hrel
    by_cases hlt : k < n
    · have hg := hrel.2
      have hm : Nat.min k (n - k) ≤ k ∧ Nat.min k (n - k) ≤ n - k ∧ 1 ≤ Nat.min k (n - k) := ⟨Nat.min_le_left _ _, Nat.min_le_right _ _, Nat.le_min.2 ⟨hk1, by omega⟩⟩
      have hcp1 : ∀ ty dc sc, (Builtin.copy_ #[45, 45] ty #[.slice (some ⟨w.heap.size, k, none⟩) (n - k) dc, .slice (some ⟨w.heap.size, 0, none⟩) k sc]).run Tryz.prog wr.drew = .ok (goInt (Nat.min k (n - k))) (wr.drew.setRow w.heap.size (dr n (k + Nat.min k (n - k)))) :=
        fun ty dc sc => rW Tryz.underlying45 hsz wr.drew w.heap.size n k dc sc ty hk1 hlt 3 hg
      have hO2 : sl n (k + Nat.min k (n - k)) w (wr.drew.setRow w.heap.size (dr n (k + Nat.min k (n - k)))) :=
        ⟨below_setRow (hrel.1.drew) (Nat.le_refl _) _, setRow_heap wr.drew _ _ _ 3 _ hg⟩
      clear hrel hg
      generalize Nat.min k (n - k) = d at *
      obtain ⟨W, hW⟩ : ∃ W, W = wr.drew.setRow w.heap.size (dr n (k + d)) := ⟨_, rfl⟩
      rw [← hW] at hO2 hcp1
      clear hW
      have hb4 : ¬ (n = k) := by omega
      go_wp2
      go_region_law_o (refine step_copy_runI rfl _ _ 45 45 rfl _ _ (by simp [Act.eval, Act.put]) (by simp [Act.eval, Act.put]) (hcp1 _ _ _) ?_)
      have hwr : IntKind.i64.wrap ((k : Int) + (d : Int)) = ((k + d : Nat) : Int) := by rw [IntKind.wrap_i64]; omega
      simp only [hwr, Act.put, List.setIfInBounds_toArray, ba, bK]
      clear hwr
      go_roundw
      case rel => exact ⟨_, _, _, _, _, _, _, _, _, _, _, _, _, _, ⟨k + d, by omega, by omega, rfl, hO2⟩, rfl⟩
      case measure => show n - (((k + d : Nat) : Int)).toNat < n - ((k : Int)).toNat; omega
    · obtain rfl : k = n := by omega
      go_wp2
      go_ret
      exact ⟨rfl, hrel⟩

theorem vY (n : Nat) (h1 : 1 ≤ n) (hn : n ≤ 1000) : wG Tryz.prog 101 [.one (.list (.int .i64) [-1]), .one (.int .i64 (n : Int))] (.int .i64) 3 (List.replicate n (-1)) := by
  refine ⟨⟨Tryz.f101, Tryz.func101, by kernel_rfl, by kernel_rfl⟩, fun C L σ w vs hP hi ha => ?_⟩
  match vs, ha with
  | [v1, v2], ⟨h2, h3, _⟩ =>
  have e2 : v2 = .int .i64 n := h3.2
  subst e2
  have hd : Dat (avd C L σ) w (.list (.int .i64)) [-1] [v1] := h2.2
  simp only [Dat] at hd
  obtain ⟨A, c, e1, _, _, hr⟩ := hd
  obtain ⟨b, o, rfl, _, _, hc⟩ := hr (by simp)
  obtain ⟨cs, l1, l2, l3⟩ := hc 0 (by simp)
  obtain rfl : v1 = .slice (some ⟨b, o, none⟩) 1 c := by simpa using e1
  have l4 := l2 0 (by decide)
  have l5 : cs = [.int .i64 (-1)] := l3
  rw [l5] at l4
  have l6 : w.cell? ⟨b, o, none⟩ = some (.int .i64 (-1)) := by simpa [Ty.size] using l4
  refine (wd b o c n w h1 hn l6).mono fun e w' hh => ?_
  obtain ⟨rfl, hb, hg⟩ := hh
  refine ⟨_, (dr n n).toList, rfl, ⟨hb.size, hb.os, hb.tape, hb.output, hb.block⟩, ?_, by decide, fun i hi => ?_⟩
  · have hl := kZ (Nat.le_refl n)
    refine ⟨by rw [hl]; simp [Ty.size], .inr ⟨w.heap.size, n, _, by simp, Nat.le_refl _, hg, by simp, by unfold maxLen; omega, ?_, ?_⟩⟩
    · simpa [Ty.size] using hl
    · simp only [aL, Ty.size, Nat.mul_one]; rw [List.take_of_length_le (by omega)]
  · have hi2 : i < n := by simpa using hi
    have e : ((dr n n).toList.drop (i * 1)).take 1 = [Value.int .i64 (-1)] := by
      have e2 : (dr n n).toList = List.replicate n (Value.int .i64 (-1)) := by unfold dr; simp
      rw [e2, Nat.mul_one, List.drop_replicate, show n - i = (n - i - 1) + 1 by omega, List.replicate_succ]; rfl
    show Dat _ _ (.int .i64) _ (((dr n n).toList.drop (i * 1)).take 1)
    rw [e]
    show [Value.int .i64 (-1)] = [Value.int .i64 ((List.replicate n (-1 : Int)).getD i 0)]
    simp [List.getD, hi2]
end
theorem rZ (L0 : List AO) (st : Int) (inp : Nat) (hs1 : 0 ≤ st) (hs2 : st ≤ 1000) (hi1 : 1 ≤ inp) (hi2 : inp ≤ 1000) : dI Tryz.prog L0 86 [.one (.int .i64 st), .one (.int .i64 (inp : Int))] { av := .one (.rwc L0.length 0), new := dt 45 3 L0.length (List.replicate st.toNat (List.replicate inp (-1))), fp := List.range L0.length } := by
 refine dQ _ _ Tryz.func86 rfl (by kernel_rfl) (Nat.le_of_ble_eq_true rfl) (by intro k hk; exact List.mem_range.2 hk) (fun C hP hN hB => ?_)
 replace hB : C.bL.length = L0.length := by rw [hB]; skip
 replace hN : C.N = 22 := hN
 simp only [aX, O]
 refine af fun _ k1 => ?_
 refine ah hP hN rfl ?_
 (refine ae rfl fun _ k0 => ?_; simp only [zO, zT, acs, reduceCtorEq, V, O, Z, ad, ab, aa]; (repeat refine an ?_); (try refine .inl ?_); apply k0; clear k0; simp only [zP, O])
 refine ag ?_
 apply k1; clear k1; refine kp [0, 1, 4] ?_
 refine af fun _ k2 => ?_
 refine ah hP hN rfl ?_
 (refine ae rfl fun _ k0 => ?_; simp only [zO, zT, acs, reduceCtorEq, V, O, Z, ad, ab, aa, aq, ak, aw]; (repeat refine an ?_); (try refine .inl ?_); apply k0; clear k0; simp only [zP, O])
 (refine ae rfl fun _ k0 => ?_; simp only [zE, op1, ev, lkp, db, bB, eV, b0, Ty.size, Ty.dflt, reduceCtorEq, V, O, Z, ad, ab, aa, Tryz.el25, Tryz.td25, aq, ak, aw]; (repeat refine an ?_); refine Or.inr (Or.inl (k0 _ ?_)); clear k0; simp only [zP, O])
 (refine ae rfl fun _ k0 => ?_; simp only [zO, zT, acs, reduceCtorEq, V, O, Z, ad, ab, aa, aq, ak, aw]; (repeat refine an ?_); (try refine .inl ?_); apply k0; clear k0; simp only [zP, O])
 refine ag ?_
 apply k2; clear k2; refine kp [0, 1, 4, 5] ?_
 refine af fun _ k3 => ?_
 refine af fun _ k4 => ?_
 rw [qd, ← wu L0 45 3 st.toNat]
 have hlc := ou (b := L0.length + 1) (Nat.zero_le st.toNat)
 refine ah hP hN rfl ?_
 iterate 3 (refine ae rfl fun _ k0 => ?_; simp only [zO, zT, acs, reduceCtorEq, V, O, Z, ad, ab, aa, jS, hlc, Nat.div_one]; (repeat refine an ?_); (try refine .inl ?_); apply k0; clear k0; simp only [zP, O])
 refine ag ?_
 apply k4; clear k4; refine kp [0, 1, 4, 5, 10, 11] ?_
 refine aE ?_
 refine bn (fun n5 s5 => ∃ (k : Nat), (k ≤ st.toNat) ∧ n5 = st.toNat - k ∧ s5 = { env := [(1, .one (.int .i64 (inp : Int))), (4, .one .nils), (5, .one (.rwc L0.length 0)), (10, .one (.int .i64 st)), (11, .one (.int .i64 (k : Int)))], L := fl L0 45 3 st.toNat k (List.replicate k (List.replicate inp (-1))) }) ?_ ?_
 ·exact ⟨_, _, aB [1, 4, 5, 10, 11], 0, Nat.zero_le _, rfl, by rw [show (st.toNat : Int) = st by omega]; rfl⟩
 rintro n5 s5 ⟨k, hk, rfl, rfl⟩
 refine af fun _ k6 => ?_
 refine ah hP hN rfl ?_
 (refine ae rfl fun _ k0 => ?_; simp only [zO, zT, acs, reduceCtorEq, V, O, Z, ad, ab, aa]; (repeat refine an ?_); (try refine .inl ?_); apply k0; clear k0; simp only [zP, O])
 refine ag ?_
 apply k6; clear k6; refine kp [1, 4, 5, 10, 11, 12] ?_
 refine af fun _ k7 => ?_
 refine cd (fun hc8 => ?_) (fun hc8 => ?_)
 ·(try simp only [zB, reduceCtorEq] at hc8)
  refine ay ?_
  apply k7; clear k7; refine kp [1, 4, 5, 10, 11, 12] ?_
  refine af fun _ k9 => ?_
  refine aE ?_
  refine af fun _ k10 => ?_
  refine ah hP hN rfl ?_
  iterate 2 (refine ae rfl fun _ k0 => ?_; simp only [zO, zT, acs, reduceCtorEq, V, O, Z, ad, ab, aa]; (repeat refine an ?_); (try refine .inl ?_); apply k0; clear k0; simp only [zP, O])
  refine ag ?_
  apply k10; clear k10; refine kp [1, 4, 5, 6, 10, 11, 12] ?_
  have hlc := ou (b := L0.length + 1) (show k ≤ st.toNat by omega)
  have hst := tJ L0 45 3 (n := st.toNat) (k := k) (List.replicate (k + 1) (List.replicate inp (-1))) (by omega)
  have hrr : List.replicate k (List.replicate inp (-1 : Int)) ++ [List.replicate inp (-1)] = List.replicate (k + 1) (List.replicate inp (-1)) := by rw [show [List.replicate inp (-1 : Int)] = List.replicate 1 (List.replicate inp (-1)) from rfl, List.replicate_append_replicate]
  refine ah hP hN rfl ?_
  iterate 4 (refine ae rfl fun _ k0 => ?_; simp only [zO, zT, acs, reduceCtorEq, V, O, Z, ad, ab, aa, jS, kL, aL, hlc, aN, Nat.add_zero]; (repeat refine an ?_); (try refine .inl ?_); apply k0; clear k0; simp only [zP, O, kS, hrr, hst, aL])
  refine ae rfl fun _ k0 => ?_
  refine aC (h := rQ (vY inp hi1 hi2)) rfl rfl (by first | exact rfl | (simp only [ev, zP, V, O]; exact rfl)) (by simp only [zV, acs, reduceCtorEq, V, O, Z, ad, ab, aa, jS, kL, aL, hlc, aN, Nat.add_zero]) ?_
  apply k0; clear k0; simp only [zP, O, kS, hrr, hst, aL]
  iterate 2 (refine ae rfl fun _ k0 => ?_; simp only [zO, zT, acs, reduceCtorEq, V, O, Z, ad, ab, aa, jS, kL, aL, hlc, aN, Nat.add_zero]; (repeat refine an ?_); (try refine .inl ?_); apply k0; clear k0; simp only [zP, O, kS, hrr, hst, aL])
  refine ag ?_
  apply k9; clear k9; refine kp [1, 4, 5, 6, 10, 11, 12] ?_
  refine ah hP hN rfl ?_
  iterate 2 (refine ae rfl fun _ k0 => ?_; simp only [zO, zT, acs, reduceCtorEq, V, O, Z, ad, ab, aa]; (repeat refine an ?_); (try refine .inl ?_); apply k0; clear k0; simp only [zP, O])
  refine ag ?_
  refine ⟨_, _, ?_, aB [1, 4, 5, 10, 11], k + 1, by omega, rfl, by rw [← hst]; rfl⟩
  omega
 (try simp only [zB, reduceCtorEq] at hc8)
 refine bh ?_
 apply k3; clear k3; refine kp [1, 4, 5, 10, 11, 12] ?_
 refine af fun _ k11 => ?_
 refine ah hP hN rfl ?_
 iterate 2 (refine ae rfl fun _ k0 => ?_; simp only [zO, zT, acs, reduceCtorEq, V, O, Z, ad, ab, aa]; (repeat refine an ?_); (try refine .inl ?_); apply k0; clear k0; simp only [zP, O])
 refine ag ?_
 apply k11; clear k11; refine kp [1, 4, 5, 10, 11, 12] ?_
 refine ax ?_
 refine ⟨by first | exact .inl rfl | exact .inr rfl, _, rfl, ?_⟩; simp only [zP, V, O]
 obtain rfl : k = st.toNat := by omega
 rw [tA L0 _ _ _ _ (aL ..)]
 all_goals rfl
set_option maxHeartbeats 1000000 in
theorem vI (r : RS) (a b : AC) (U : List AO) (l : List Bs) (hl : l.length ≤ 1000000) (hi : 1 ≤ r.ins.length ∧ r.ins.length ≤ 64) : dI Tryz.prog (.vars 60 [.str r.nm, .list .str r.ins, .list .str r.outs, .int .i64 r.inp, .int .i64 r.st, a, b, .list .str r.sts, .int .i64 (r.rd : Int), .int .i64 r.lf] :: U) 64 [.one (.ptr 0 0 0 0), .one (.list .str l)] { av := .one (.int .i64 (dw l)), upd := eM (U.length + 1) (jV 60 45 3 r a b U l), new := (jV 60 45 3 r a b U l).drop (U.length + 1), fp := List.range (U.length + 1) } := by
 refine dQ _ _ Tryz.func64 rfl (by kernel_rfl) (Nat.le_of_ble_eq_true rfl) (by intro k hk; exact List.mem_range.2 hk) (fun C hP hN hB => ?_)
 replace hB : C.bL.length = U.length + 1 := by rw [hB]; rfl
 replace hN : C.N = 64 := hN
 simp only [aX, O]
 refine af fun _ k1 => ?_
 refine ah hP hN rfl ?_
 (refine ae rfl fun _ k0 => ?_; simp only [zO, zT, acs, reduceCtorEq, V, O, Z, ad, ab, aa]; (repeat refine an ?_); (try refine .inl ?_); apply k0; clear k0; simp only [zP, O])
 refine ag ?_
 apply k1; clear k1; refine kp [0, 1, 4] ?_
 refine af fun _ k2 => ?_
 refine aE ?_
 refine af fun _ k3 => ?_
 refine ah hP hN rfl ?_
 iterate 4 (refine ae rfl fun _ k0 => ?_; simp only [zO, zT, acs, reduceCtorEq, V, O, Z, ad, ab, aa]; (repeat refine an ?_); (try refine .inl ?_); apply k0; clear k0; simp only [zP, O])
 refine ag ?_
 apply k3; clear k3; refine kp [0, 1, 4, 8] ?_
 refine cd (fun hc4 => ?_) (fun hc4 => ?_)
 ·(try simp only [zB, reduceCtorEq] at hc4)
  refine af fun _ k5 => ?_
  refine ah hP hN rfl ?_
  (refine ae rfl fun _ k0 => ?_; simp only [zO, zT, acs, reduceCtorEq, V, O, Z, ad, ab, aa]; (repeat refine an ?_); (try refine .inl ?_); apply k0; clear k0; simp only [zP, O])
  refine ag ?_
  apply k5; clear k5; refine kp [0, 1, 4, 8] ?_
  refine ax ?_
  refine ⟨by first | exact .inl rfl | exact .inr rfl, _, rfl, ?_⟩; simp only [zP, V, O]
  have hU := aH (ct (R := 60) (S := 45) (I := 3) (r := r) (a := a) (b := b) (U := U) (l := l) (x := .vars 60 [.str r.nm, .list .str r.ins, .list .str r.outs, .int .i64 r.inp, .int .i64 r.st, a, b, .list .str r.sts, .int .i64 (r.rd : Int), .int .i64 r.lf]))
  simp only [ak] at hU
  rw [hU]
  first
  | (have hE := fS (l := l) (by omega)
     rw [bG hE (by decide), hE]; all_goals exact ⟨rfl, rfl⟩)
  | (have hE := du (l := l) (by omega) (by omega)
     rw [bG hE (by decide), hE]; all_goals exact ⟨rfl, rfl⟩)
  | (have hE := fY (l := l) (by omega) (by omega) (k := k) (by omega) hq hbad
     rw [bG hE (by decide), hE]; all_goals exact ⟨rfl, rfl⟩)
  | (have hE := fP (l := l) (by omega) (by omega) (k := k) (by omega) hq hgood hin
     rw [bG hE (by decide), hE]; all_goals exact ⟨rfl, rfl⟩)
  | (have hE := ec (l := l) (by omega) (by omega) fun q hq2 => hq q (by omega)
     have e9 : (U ++ dt 45 3 (U.length + 1) (List.replicate l.length (List.replicate r.ins.length (-1)))).length + 1 = U.length + 2 + l.length := by rw [aq, f8, aL]; omega
     rw [e9, gg hE, hE]; all_goals exact ⟨rfl, rfl⟩)
 (try simp only [zB, reduceCtorEq] at hc4)
 refine af fun _ k6 => ?_
 refine ah hP hN rfl ?_
 iterate 4 (refine ae rfl fun _ k0 => ?_; simp only [zO, zT, acs, reduceCtorEq, V, O, Z, ad, ab, aa]; (repeat refine an ?_); (try refine .inl ?_); apply k0; clear k0; simp only [zP, O])
 refine ag ?_
 apply k6; clear k6; refine kp [0, 1, 4, 8, 12] ?_
 refine cd (fun hc7 => ?_) (fun hc7 => ?_)
 ·(try simp only [zB, reduceCtorEq] at hc7)
  refine af fun _ k8 => ?_
  refine ah hP hN rfl ?_
  (refine ae rfl fun _ k0 => ?_; simp only [zO, zT, acs, reduceCtorEq, V, O, Z, ad, ab, aa]; (repeat refine an ?_); (try refine .inl ?_); apply k0; clear k0; simp only [zP, O])
  refine ag ?_
  apply k8; clear k8; refine kp [0, 1, 4, 8, 12] ?_
  refine ax ?_
  refine ⟨by first | exact .inl rfl | exact .inr rfl, _, rfl, ?_⟩; simp only [zP, V, O]
  have hU := aH (ct (R := 60) (S := 45) (I := 3) (r := r) (a := a) (b := b) (U := U) (l := l) (x := .vars 60 [.str r.nm, .list .str r.ins, .list .str r.outs, .int .i64 r.inp, .int .i64 r.st, a, b, .list .str r.sts, .int .i64 (r.rd : Int), .int .i64 r.lf]))
  simp only [ak] at hU
  rw [hU]
  first
  | (have hE := fS (l := l) (by omega)
     rw [bG hE (by decide), hE]; all_goals exact ⟨rfl, rfl⟩)
  | (have hE := du (l := l) (by omega) (by omega)
     rw [bG hE (by decide), hE]; all_goals exact ⟨rfl, rfl⟩)
  | (have hE := fY (l := l) (by omega) (by omega) (k := k) (by omega) hq hbad
     rw [bG hE (by decide), hE]; all_goals exact ⟨rfl, rfl⟩)
  | (have hE := fP (l := l) (by omega) (by omega) (k := k) (by omega) hq hgood hin
     rw [bG hE (by decide), hE]; all_goals exact ⟨rfl, rfl⟩)
  | (have hE := ec (l := l) (by omega) (by omega) fun q hq2 => hq q (by omega)
     have e9 : (U ++ dt 45 3 (U.length + 1) (List.replicate l.length (List.replicate r.ins.length (-1)))).length + 1 = U.length + 2 + l.length := by rw [aq, f8, aL]; omega
     rw [e9, gg hE, hE]; all_goals exact ⟨rfl, rfl⟩)
 (try simp only [zB, reduceCtorEq] at hc7)
 refine ay ?_
 apply k2; clear k2; refine kp [0, 1, 4, 8, 12] ?_
 refine af fun _ k9 => ?_
 refine af fun _ k10 => ?_
 refine ah hP hN rfl ?_
 iterate 3 (refine ae rfl fun _ k0 => ?_; simp only [zO, zT, acs, reduceCtorEq, V, O, Z, ad, ab, aa]; (repeat refine an ?_); (try refine .inl ?_); apply k0; clear k0; simp only [zP, O])
 refine ag ?_
 apply k10; clear k10; refine kp [0, 1, 4, 8, 12, 16, 17, 18] ?_
 refine aE ?_
 refine bn (fun n11 s11 => ∃ (k : Nat), (k ≤ l.length) ∧ (∀ q, q < k → nmE l q = 0) ∧ n11 = l.length - k ∧ s11 = { env := [(0, .one (.ptr 0 0 0 0)), (1, .one (.list .str l)), (4, .one (.int .i64 0)), (16, .one (.list .str l)), (17, .one (.int .i64 (l.length : Int))), (18, .one (.int .i64 (k : Int)))], L := (.vars 60 [.str r.nm, .list .str r.ins, .list .str r.outs, .int .i64 r.inp, .int .i64 r.st, a, b, .list .str r.sts, .int .i64 (r.rd : Int), .int .i64 r.lf] :: U) }) ?_ ?_
 ·exact ⟨_, _, aB [0, 1, 4, 16, 17, 18], 0, Nat.zero_le _, fun q hq => by omega, rfl, rfl⟩
 rintro n11 s11 ⟨k, hk, hq, rfl, rfl⟩
 refine af fun _ k12 => ?_
 refine ah hP hN rfl ?_
 (refine ae rfl fun _ k0 => ?_; simp only [zO, zT, acs, reduceCtorEq, V, O, Z, ad, ab, aa]; (repeat refine an ?_); (try refine .inl ?_); apply k0; clear k0; simp only [zP, O])
 refine ag ?_
 apply k12; clear k12; refine kp [0, 1, 4, 16, 17, 18, 19] ?_
 refine af fun _ k13 => ?_
 refine cd (fun hc14 => ?_) (fun hc14 => ?_)
 ·(try simp only [zB, reduceCtorEq] at hc14)
  refine ay ?_
  apply k13; clear k13; refine kp [0, 1, 4, 16, 17, 18, 19] ?_
  refine af fun _ k15 => ?_
  refine aE ?_
  refine af fun _ k16 => ?_
  refine ah hP hN rfl ?_
  iterate 5 (refine ae rfl fun _ k0 => ?_; simp only [zO, zT, acs, reduceCtorEq, V, O, Z, ad, ab, aa]; (repeat refine an ?_); (try refine .inl ?_); apply k0; clear k0; simp only [zP, O])
  refine ag ?_
  apply k16; clear k16; refine kp [0, 1, 4, 5, 6, 16, 17, 18, 19] ?_
  refine af fun _ k17 => ?_
  refine af fun _ k18 => ?_
  refine ah hP hN rfl ?_
  (refine ae rfl fun _ k0 => ?_; simp only [zO, zT, acs, reduceCtorEq, V, O, Z, ad, ab, aa]; (repeat refine an ?_); (try refine .inl ?_); apply k0; clear k0; simp only [zP, O])
  refine ae rfl fun _ k0 => ?_
  refine aC (h := au (md (l.getD k []))) rfl rfl (by first | exact rfl | (simp only [ev, zP, V, O]; exact rfl)) (by simp only [zV, acs, reduceCtorEq, V, O, Z, ad, ab, aa]) ?_
  apply k0; clear k0; simp only [zP, O]
  (refine ae rfl fun _ k0 => ?_; simp only [zO, zT, acs, reduceCtorEq, V, O, Z, ad, ab, aa]; (repeat refine an ?_); (try refine .inl ?_); apply k0; clear k0; simp only [zP, O])
  refine ag ?_
  apply k18; clear k18; refine kp [0, 1, 4, 5, 6, 16, 17, 18, 19, 25] ?_
  refine cd (fun hc19 => ?_) (fun hc19 => ?_)
  ·(try simp only [zB, reduceCtorEq] at hc19)
   have hbad : aY (l.getD k []) = false := by simpa using hc19
   refine af fun _ k20 => ?_
   refine ah hP hN rfl ?_
   (refine ae rfl fun _ k0 => ?_; simp only [zO, zT, acs, reduceCtorEq, V, O, Z, ad, ab, aa]; (repeat refine an ?_); (try refine .inl ?_); apply k0; clear k0; simp only [zP, O])
   refine ag ?_
   apply k20; clear k20; refine kp [0, 1, 4, 5, 6, 16, 17, 18, 19, 25] ?_
   refine ax ?_
   refine ⟨by first | exact .inl rfl | exact .inr rfl, _, rfl, ?_⟩; simp only [zP, V, O]
   have hU := aH (ct (R := 60) (S := 45) (I := 3) (r := r) (a := a) (b := b) (U := U) (l := l) (x := .vars 60 [.str r.nm, .list .str r.ins, .list .str r.outs, .int .i64 r.inp, .int .i64 r.st, a, b, .list .str r.sts, .int .i64 (r.rd : Int), .int .i64 r.lf]))
   simp only [ak] at hU
   rw [hU]
   first
   | (have hE := fS (l := l) (by omega)
      rw [bG hE (by decide), hE]; all_goals exact ⟨rfl, rfl⟩)
   | (have hE := du (l := l) (by omega) (by omega)
      rw [bG hE (by decide), hE]; all_goals exact ⟨rfl, rfl⟩)
   | (have hE := fY (l := l) (by omega) (by omega) (k := k) (by omega) hq hbad
      rw [bG hE (by decide), hE]; all_goals exact ⟨rfl, rfl⟩)
   | (have hE := fP (l := l) (by omega) (by omega) (k := k) (by omega) hq hgood hin
      rw [bG hE (by decide), hE]; all_goals exact ⟨rfl, rfl⟩)
   | (have hE := ec (l := l) (by omega) (by omega) fun q hq2 => hq q (by omega)
      have e9 : (U ++ dt 45 3 (U.length + 1) (List.replicate l.length (List.replicate r.ins.length (-1)))).length + 1 = U.length + 2 + l.length := by rw [aq, f8, aL]; omega
      rw [e9, gg hE, hE]; all_goals exact ⟨rfl, rfl⟩)
  (try simp only [zB, reduceCtorEq] at hc19)
  have hgood : aY (l.getD k []) = true := by simpa using hc19
  refine ay ?_
  apply k17; clear k17; refine kp [0, 1, 4, 5, 6, 16, 17, 18, 19, 25] ?_
  refine af fun _ k21 => ?_
  refine ah hP hN rfl ?_
  iterate 2 (refine ae rfl fun _ k0 => ?_; simp only [zO, zT, acs, reduceCtorEq, V, O, Z, ad, ab, aa, List.drop_zero, aN, Int.toNat_zero]; (repeat refine an ?_); (try refine .inl ?_); apply k0; clear k0; simp only [zP, O])
  (refine ae rfl fun _ k0 => ?_; simp only [zE, op1, ev, lkp, db, bB, ck, bnd, Ty.size, reduceCtorEq, V, O, Z, ad, ab, aa, Tryz.el22, Tryz.td22, Tryz.td3, Tryz.td9, List.drop_zero, aN, Int.toNat_zero]; (repeat refine an ?_); (try refine .inl ?_); apply k0; clear k0; simp only [zP, O])
  (refine ae rfl fun _ k0 => ?_; simp only [zO, zT, acs, reduceCtorEq, V, O, Z, ad, ab, aa, List.drop_zero, aN, Int.toNat_zero]; (repeat refine an ?_); (try refine .inl ?_); apply k0; clear k0; simp only [zP, O])
  refine ae rfl fun _ k0 => ?_
  refine aC (h := au (gO (l.take k) (l.getD k []))) rfl rfl (by first | exact rfl | (simp only [ev, zP, V, O]; exact rfl)) (by simp only [zV, acs, reduceCtorEq, V, O, Z, ad, ab, aa, List.drop_zero, aN, Int.toNat_zero]) ?_
  apply k0; clear k0; simp only [zP, O]
  refine ag ?_
  apply k21; clear k21; refine kp [0, 1, 4, 5, 6, 16, 17, 18, 19, 25, 30] ?_
  refine cd (fun hc22 => ?_) (fun hc22 => ?_)
  ·(try simp only [zB, reduceCtorEq] at hc22)
   have hin : l.getD k [] ∈ l.take k := by simpa using hc22
   refine af fun _ k23 => ?_
   refine ah hP hN rfl ?_
   (refine ae rfl fun _ k0 => ?_; simp only [zO, zT, acs, reduceCtorEq, V, O, Z, ad, ab, aa]; (repeat refine an ?_); (try refine .inl ?_); apply k0; clear k0; simp only [zP, O])
   refine ag ?_
   apply k23; clear k23; refine kp [0, 1, 4, 5, 6, 16, 17, 18, 19, 25, 30] ?_
   refine ax ?_
   refine ⟨by first | exact .inl rfl | exact .inr rfl, _, rfl, ?_⟩; simp only [zP, V, O]
   have hU := aH (ct (R := 60) (S := 45) (I := 3) (r := r) (a := a) (b := b) (U := U) (l := l) (x := .vars 60 [.str r.nm, .list .str r.ins, .list .str r.outs, .int .i64 r.inp, .int .i64 r.st, a, b, .list .str r.sts, .int .i64 (r.rd : Int), .int .i64 r.lf]))
   simp only [ak] at hU
   rw [hU]
   first
   | (have hE := fS (l := l) (by omega)
      rw [bG hE (by decide), hE]; all_goals exact ⟨rfl, rfl⟩)
   | (have hE := du (l := l) (by omega) (by omega)
      rw [bG hE (by decide), hE]; all_goals exact ⟨rfl, rfl⟩)
   | (have hE := fY (l := l) (by omega) (by omega) (k := k) (by omega) hq hbad
      rw [bG hE (by decide), hE]; all_goals exact ⟨rfl, rfl⟩)
   | (have hE := fP (l := l) (by omega) (by omega) (k := k) (by omega) hq hgood hin
      rw [bG hE (by decide), hE]; all_goals exact ⟨rfl, rfl⟩)
   | (have hE := ec (l := l) (by omega) (by omega) fun q hq2 => hq q (by omega)
      have e9 : (U ++ dt 45 3 (U.length + 1) (List.replicate l.length (List.replicate r.ins.length (-1)))).length + 1 = U.length + 2 + l.length := by rw [aq, f8, aL]; omega
      rw [e9, gg hE, hE]; all_goals exact ⟨rfl, rfl⟩)
  (try simp only [zB, reduceCtorEq] at hc22)
  have hnin : l.getD k [] ∉ l.take k := by simpa using hc22
  refine ay ?_
  apply k15; clear k15; refine kp [0, 1, 4, 5, 6, 16, 17, 18, 19, 25, 30] ?_
  refine ah hP hN rfl ?_
  iterate 2 (refine ae rfl fun _ k0 => ?_; simp only [zO, zT, acs, reduceCtorEq, V, O, Z, ad, ab, aa]; (repeat refine an ?_); (try refine .inl ?_); apply k0; clear k0; simp only [zP, O])
  refine ag ?_
  refine ⟨_, _, ?_, aB [0, 1, 4, 16, 17, 18], k + 1, by omega, fun q hq2 => ?_, rfl, rfl⟩
  · omega
  · by_cases e : q = k
    · rw [e]; exact jh hgood hnin
    · exact hq q (by omega)
 (try simp only [zB, reduceCtorEq] at hc14)
 refine bh ?_
 apply k9; clear k9; refine kp [0, 1, 4, 16, 17, 18, 19] ?_
 refine af fun _ k24 => ?_
 refine ah hP hN rfl ?_
 iterate 8 (refine ae rfl fun _ k0 => ?_; simp only [zO, zT, acs, reduceCtorEq, V, O, Z, ad, ab, aa]; (repeat refine an ?_); (try refine .inl ?_); apply k0; clear k0; simp only [zP, O])
 refine ag ?_
 apply k24; clear k24; refine kp [0, 1, 4, 7, 16, 17, 18, 19] ?_
 refine af fun _ k25 => ?_
 refine ah hP hN rfl ?_
 iterate 5 (refine ae rfl fun _ k0 => ?_; simp only [zO, zT, acs, reduceCtorEq, V, O, Z, ad, ab, aa]; (repeat refine an ?_); (try refine .inl ?_); apply k0; clear k0; simp only [zP, O])
 refine ag ?_
 apply k25; clear k25; refine kp [0, 1, 4, 7, 16, 17, 18, 19] ?_
 refine af fun _ k26 => ?_
 have hmu : (l.length : Int) * r.ins.length ≤ 128 * 64 := Int.mul_le_mul (by omega) (by omega) (by omega) (by omega)
 have hm0 : (0 : Int) ≤ (l.length : Int) * r.ins.length := Int.mul_nonneg (by omega) (by omega)
 refine ah hP hN rfl ?_
 iterate 8 (refine ae rfl fun _ k0 => ?_; simp only [zO, zT, acs, reduceCtorEq, V, O, Z, ad, ab, aa]; (repeat refine an ?_); (try refine .inl ?_); apply k0; clear k0; simp only [zP, O])
 refine ag ?_
 apply k26; clear k26; refine kp [0, 1, 4, 7, 16, 17, 18, 19] ?_
 refine af fun _ k27 => ?_
 refine ah hP hN rfl ?_
 iterate 5 (refine ae rfl fun _ k0 => ?_; simp only [zO, zT, acs, reduceCtorEq, V, O, Z, ad, ab, aa]; (repeat refine an ?_); (try refine .inl ?_); apply k0; clear k0; simp only [zP, O])
 refine ae rfl fun _ k0 => ?_
 refine aC (h := rZ _ (l.length : Int) r.ins.length (by omega) (by omega) (by omega) (by omega)) rfl rfl (by first | exact rfl | (simp only [ev, zP, V, O]; exact rfl)) (by simp only [zV, acs, reduceCtorEq, V, O, Z, ad, ab, aa]) ?_
 apply k0; clear k0; simp only [zP, O]
 iterate 3 (refine ae rfl fun _ k0 => ?_; simp only [zO, zT, acs, reduceCtorEq, V, O, Z, ad, ab, aa]; (repeat refine an ?_); (try refine .inl ?_); apply k0; clear k0; simp only [zP, O])
 refine ae rfl fun _ k0 => ?_
 refine aC (h := rZ _ (l.length : Int) r.ins.length (by omega) (by omega) (by omega) (by omega)) rfl rfl (by first | exact rfl | (simp only [ev, zP, V, O]; exact rfl)) (by simp only [zV, acs, reduceCtorEq, V, O, Z, ad, ab, aa]) ?_
 apply k0; clear k0; simp only [zP, O]
 iterate 5 (refine ae rfl fun _ k0 => ?_; simp only [zO, zT, acs, reduceCtorEq, V, O, Z, ad, ab, aa]; (repeat refine an ?_); (try refine .inl ?_); apply k0; clear k0; simp only [zP, O])
 refine ag ?_
 apply k27; clear k27; refine kp [0, 1, 4, 7, 16, 17, 18, 19] ?_
 refine af fun _ k28 => ?_
 refine ah hP hN rfl ?_
 (refine ae rfl fun _ k0 => ?_; simp only [zO, zT, acs, reduceCtorEq, V, O, Z, ad, ab, aa]; (repeat refine an ?_); (try refine .inl ?_); apply k0; clear k0; simp only [zP, O])
 refine ag ?_
 apply k28; clear k28; refine kp [0, 1, 4, 7, 16, 17, 18, 19] ?_
 refine ax ?_
 refine ⟨by first | exact .inl rfl | exact .inr rfl, _, rfl, ?_⟩; simp only [zP, V, O]
 have hU := aH (ct (R := 60) (S := 45) (I := 3) (r := r) (a := a) (b := b) (U := U) (l := l) (x := .vars 60 [.str r.nm, .list .str r.ins, .list .str r.outs, .int .i64 r.inp, .int .i64 r.st, a, b, .list .str r.sts, .int .i64 (r.rd : Int), .int .i64 r.lf]))
 simp only [ak] at hU
 rw [hU]
 first
 | (have hE := fS (l := l) (by omega)
    rw [bG hE (by decide), hE]; all_goals exact ⟨rfl, rfl⟩)
 | (have hE := du (l := l) (by omega) (by omega)
    rw [bG hE (by decide), hE]; all_goals exact ⟨rfl, rfl⟩)
 | (have hE := fY (l := l) (by omega) (by omega) (k := k) (by omega) hq hbad
    rw [bG hE (by decide), hE]; all_goals exact ⟨rfl, rfl⟩)
 | (have hE := fP (l := l) (by omega) (by omega) (k := k) (by omega) hq hgood hin
    rw [bG hE (by decide), hE]; all_goals exact ⟨rfl, rfl⟩)
 | (have hE := ec (l := l) (by omega) (by omega) fun q hq2 => hq q (by omega)
    have e9 : (U ++ dt 45 3 (U.length + 1) (List.replicate l.length (List.replicate r.ins.length (-1)))).length + 1 = U.length + 2 + l.length := by rw [aq, f8, aL]; omega
    rw [e9, gg hE, hE]; all_goals exact ⟨rfl, rfl⟩)
end Go.Proofs.YtmfkpljjhiglpaaGreatDoor
