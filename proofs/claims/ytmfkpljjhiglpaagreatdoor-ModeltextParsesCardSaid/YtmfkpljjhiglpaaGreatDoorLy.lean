/- The contract of slices.Sort on an own row of ints, out of the shelf's contract. -/
import Derived.Test.YtmfkpljjhiglpaaGreatDoorLx
import Derived.Sort.OwnSortedInts
set_option linter.unusedSimpArgs false
set_option linter.unusedVariables false
namespace Go.AV
open Go Go.RowKit Go.Sort
def vf (P : Program) (f : FuncId) : Prop := gu P f ∧ ∀ (blk off cap : Nat) (zs : List Int) (w : World), Holds (Value.int .i64) w blk off zs.toArray → blk < w.heap.size → zs.length < 4611686018427387904 →
    Calls P f #[.slice (some ⟨blk, off, none⟩) zs.length cap] w fun e w' =>
      e = .returned (.tuple #[]) ∧ ∃ n os, w' = grow (putRow (Value.int .i64) (Sort.ahead w n) blk off (zs.mergeSort fun x y => decide (x ≤ y)).toArray) os
theorem ne {P : Nat → Prop} {w : World} {xs : List Int} {flat : List Value} (hl : flat.length = xs.length) (h : ∀ i, i < xs.length → Dat P w (.int .i64) (xs.getD i 0) ((flat.drop (i * 1)).take 1)) : flat = xs.map (Value.int .i64) := by
  refine List.ext_getElem (by simp [hl]) fun i h1 h2 => ?_
  have hi : i < xs.length := by simpa using h2
  have := h i hi
  rw [Nat.mul_one] at this
  have e : (flat.drop i).take 1 = [flat[i]] := by
    rw [List.drop_eq_getElem_cons h1]; rfl
  rw [e] at this
  have e2 : xs.getD i 0 = xs[i] := by simp [List.getD, hi]
  rw [e2] at this
  simpa [Dat] using this
theorem rz {P : Program} {L0 : List AO} {f : FuncId} {k ver : Nat} {e : TypeId} {xs : List Int} (hs : vf P f) (hL : L0[k]? = some (.row (.int .i64) e ver xs)) (h0 : 0 < xs.length) (h1 : xs.length < 4611686018427387904) :
    dI P L0 f [.one (.row k ver)] { av := .tup [], upd := [(k, .row (.int .i64) e ver (xs.mergeSort fun x y => decide (x ≤ y)))], fp := [k] } := by
  refine ⟨hs.1, fun C L σ w vs hP hi ha hfp hlen => ?_⟩
  have hob : L[k]? = some (.row (.int .i64) e ver xs) := by rw [hfp k (by simp)]; exact hL
  cases vs with
  | nil => exact ha.elim
  | cons v vs =>
  cases vs with
  | cons _ _ => exact ha.2.elim
  | nil =>
  obtain ⟨hv, _⟩ := ha
  obtain ⟨ob, q1, q2, q3⟩ := hv.2
  rw [hob] at q1; cases q1
  obtain ⟨_, hvs⟩ := q3 rfl rfl
  obtain ⟨flat, ho, hp, hd⟩ := hi.ob k _ hob
  have hfl := ho.1
  have hsz : (Ty.int IntKind.i64).size = 1 := rfl
  rw [hsz] at hfl hd
  have hflat := ne (by omega) hd
  rcases ho.2 with ⟨hh, hz⟩ | ⟨g, cap, cur, hvg, hbase, hg, hn, hcap, hcs, htk⟩
  · omega
  · rw [hsz, hflat, Nat.mul_one] at htk
    rw [hsz, Nat.mul_one] at hcs
    have hH := holds_of_blockI hg htk
    have hlt : g < w.heap.size := (Array.getElem?_eq_some_iff.1 hg).1
    have hown : own L σ k g := ⟨_, hob, rfl, by rw [hvg]; rfl⟩
    have hl2 : (xs.mergeSort fun x y => decide (x ≤ y)).length = xs.length := List.length_mergeSort _
    have hcall := hs.2 g 0 cap xs w hH hlt h1
    rw [hvs, hvg]
    refine hcall.mono fun en w' hh => ?_
    obtain ⟨e1, n, os, e2⟩ := hh
    refine ⟨.tuple #[], e1, ?_⟩
    subst e2
    have hgb := grownBy_sortedI (w := w) (g := g) (n := n) (os := os) (xs.mergeSort fun x y => decide (x ≤ y)).toArray
    obtain ⟨g1, g2, g3, g4, g5⟩ := hgb
    refine cj (σ' := σ) hi hob g4 g1 g2 g3 (fun b hb hno => g5 b hb (fun e => hno ((Option.some.inj e) ▸ hown))) (fun _ _ => rfl) ⟨Nat.le_refl _, fun _ _ => ⟨rfl, rfl, rfl, _, rfl⟩⟩
      (fun _ j hj => .inl ⟨_, hob, rfl, hj⟩) (fun hp _ => ?_) (fun _ _ => ⟨[], rfl, trivial⟩)
    refine ⟨(xs.mergeSort fun x y => decide (x ≤ y)).map (Value.int .i64), ?_, by decide, fun i hi2 => ?_⟩
    · rw [hvg, hl2]
      exact ownsRow_sortedI (ts := xs.mergeSort fun x y => decide (x ≤ y)) hl2 (Nat.zero_le _) hg hn hcap (by rw [Nat.mul_one]; exact hcs)
    · have hi3 : i < ((xs.mergeSort fun x y => decide (x ≤ y)).map (Value.int .i64)).length := by simpa using hi2
      show Dat _ _ (.int .i64) _ (((List.map (Value.int .i64) (xs.mergeSort fun x y => decide (x ≤ y))).drop (i * 1)).take 1)
      rw [Nat.mul_one, List.drop_eq_getElem_cons hi3]
      have e2 : (xs.mergeSort fun x y => decide (x ≤ y)).getD i 0 = (xs.mergeSort fun x y => decide (x ≤ y))[i] := by rw [List.getD, List.getElem?_eq_getElem hi2]; rfl
      show Dat _ _ (.int .i64) ((xs.mergeSort fun x y => decide (x ≤ y)).getD i 0) [_]
      rw [e2]; simp [Dat]
end Go.AV
