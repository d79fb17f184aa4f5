/- The contract of slices.Compact on an own row of ints, out of the shelf's contract. -/
import Derived.Test.YtdkgcbhbpdbmnaaLy
import Derived.Shelf.Slices.CompactI
set_option linter.unusedSimpArgs false
set_option linter.unusedVariables false
namespace Go.AV
open Go Go.RowKit Go.Sort
def lc (P : Program) (f : FuncId) : Prop := eu P f ∧ ∀ (blk off cap : Nat) (zs : List Int) (w : World), Holds (Value.int .i64) w blk off zs.toArray → zs.length ≤ 9223372036854775807 → zs.length ≤ cap →
    Calls P f #[.slice (some ⟨blk, off, none⟩) zs.length cap] w fun e w' => e = .returned (.slice (some ⟨blk, off, none⟩) (Lib.compact zs).length cap) ∧
      ∃ q, w' = putRow (Value.int .i64) (Sort.ahead w q) blk off (Lib.compact zs ++ List.replicate (zs.length - (Lib.compact zs).length) 0).toArray
theorem kB {P : Program} {L0 : List AO} {f : FuncId} {k ver : Nat} {e : TypeId} {xs : List Int} (hs : lc P f) (hL : L0[k]? = some (.row (.int .i64) e ver xs)) (h0 : 0 < xs.length) (h1 : xs.length ≤ 9223372036854775807) (hle : (Lib.compact xs).length ≤ xs.length) :
    fS P L0 f [.one (.row k ver)] { av := .one (.row k (ver + 1)), upd := [(k, .row (.int .i64) e (ver + 1) (Lib.compact xs))], fp := [k] } := by
  refine ⟨hs.1, fun C L σ w vs hP hi ha hfp hlen => ?_⟩
  have hob : L[k]? = some (.row (.int .i64) e ver xs) := by rw [hfp k (by simp)]; exact hL
  cases vs with
  | nil => exact ha.elim
  | cons v vs =>
  cases vs with
  | cons _ _ => exact ha.2.elim
  | nil =>
  obtain ⟨hv, _⟩ := ha
  obtain ⟨ob, q1, q2, q3⟩ := hv.2
  rw [hob] at q1; cases q1
  obtain ⟨_, hvs⟩ := q3 rfl rfl
  obtain ⟨flat, ho, hp, hd⟩ := hi.ob k _ hob
  have hfl := ho.1
  have hsz : (Ty.int IntKind.i64).size = 1 := rfl
  rw [hsz] at hfl hd
  have hflat := kv (by omega) hd
  rcases ho.2 with ⟨hh, hz⟩ | ⟨g, cap, cur, hvg, hbase, hg, hn, hcap, hcs, htk⟩
  · omega
  · rw [hsz, hflat, Nat.mul_one] at htk
    rw [hsz, Nat.mul_one] at hcs
    have hH := holds_of_blockI hg htk
    have hlt : g < w.heap.size := (Array.getElem?_eq_some_iff.1 hg).1
    have hklt : k < L.length := (List.getElem?_eq_some_iff.1 hob).1
    have hown : own L σ k g := ⟨_, hob, rfl, by rw [hvg]; rfl⟩
    have hcall := hs.2 g 0 cap xs w hH h1 hn
    rw [hvs, hvg]
    refine hcall.mono fun en w' hh => ?_
    obtain ⟨e1, n, e2⟩ := hh
    refine ⟨_, e1, ?_⟩
    have e3 : w' = grow (putRow (Value.int .i64) (Sort.ahead w n) g 0 (Lib.compact xs ++ List.replicate (xs.length - (Lib.compact xs).length) 0).toArray) #[] := by rw [grow_empty]; exact e2
    subst e3
    obtain ⟨g1, g2, g3, g4, g5⟩ := grownBy_sortedI (w := w) (g := g) (n := n) (os := #[]) (Lib.compact xs ++ List.replicate (xs.length - (Lib.compact xs).length) 0).toArray
    have hll : (Lib.compact xs ++ List.replicate (xs.length - (Lib.compact xs).length) 0).length = xs.length := by rw [List.length_append, List.length_replicate]; omega
    refine cA (σ' := sup σ k (.slice (some ⟨g, 0, none⟩) (Lib.compact xs).length cap)) hi hob g4 g1 g2 g3 (fun b hb hno => g5 b hb (fun e => hno ((Option.some.inj e) ▸ hown))) (fun j hj => cR σ _ hj) ⟨Nat.le_succ _, fun _ h => by simp [AO.ver] at h⟩
      (fun _ j hj => .inl (by rw [bp] at hj; cases hj; exact hown)) (fun hp _ => ?_) (fun _ _ => ?_)
    · refine ⟨(Lib.compact xs).map (Value.int .i64), ?_, by decide, fun i hi2 => ?_⟩
      · rw [bp]
        refine ⟨by simp [hsz], .inr ⟨g, cap, _, rfl, Nat.zero_le _, heap_sortedI _ hg, by omega, hcap, by rw [hsz, Nat.mul_one]; simp [putCells, hcs], ?_⟩⟩
        have ht := take_putCellsI cur (Lib.compact xs ++ List.replicate (xs.length - (Lib.compact xs).length) 0) (by omega)
        rw [hsz, Nat.mul_one]
        have := congrArg (List.take (Lib.compact xs).length) ht
        rw [List.take_take, hll, Nat.min_eq_left hle] at this
        rw [this, ← List.map_take, List.take_left]
      · have hi3 : i < ((Lib.compact xs).map (Value.int .i64)).length := by simpa using hi2
        show Dat _ _ (.int .i64) _ (((List.map (Value.int .i64) (Lib.compact xs)).drop (i * 1)).take 1)
        rw [Nat.mul_one, List.drop_eq_getElem_cons hi3]
        have e2 : (Lib.compact xs).getD i 0 = (Lib.compact xs)[i] := by rw [List.getD, List.getElem?_eq_getElem hi2]; rfl
        show Dat _ _ (.int .i64) ((Lib.compact xs).getD i 0) [_]
        rw [e2]; simp [Dat]
    · refine ⟨rfl, .row (.int .i64) e (ver + 1) (Lib.compact xs), by simp [hklt], Nat.le_refl _, fun _ _ => ⟨⟨_, _, _, rfl⟩, by rw [bp]⟩⟩
/-! ### a callee that works on its caller's objects -/
section
variable {C C' : Ctx} {L : List AO} {σ : Sig} {w : World}
end
end Go.AV
