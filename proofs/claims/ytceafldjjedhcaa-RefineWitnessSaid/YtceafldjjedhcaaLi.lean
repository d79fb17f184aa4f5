/- The evaluator's operations, sixth part: make, slices of slices and strings. -/
import Derived.Test.YtceafldjjedhcaaLh
import Derived.Maps.Keyed
import Derived.DeepKeys4
import Derived.ChangeMaps5
import Derived.Carry
import Derived.Laws.StructEq
import Derived.ChangeKeysEq
set_option linter.unusedSimpArgs false
set_option linter.unusedVariables false
namespace Go.AV
open Go Go.RowKit

theorem flat_rep {α : Type} (z : List α) : ∀ (n i : Nat), i < n → ((List.replicate n z).flatten.drop (i * z.length)).take z.length = z
  | 0, _, h => by omega
  | n + 1, 0, _ => by simp [List.replicate_succ]
  | n + 1, i + 1, h => by
    have := flat_rep z n i (by omega)
    rw [List.replicate_succ, List.flatten_cons, Nat.add_mul, Nat.one_mul, Nat.add_comm (i * z.length), List.drop_append, List.drop_eq_nil_of_le (by omega)]
    simpa using this
theorem flat_take {α : Type} (z : List α) : ∀ (c n : Nat), n ≤ c → (List.replicate c z).flatten.take (n * z.length) = (List.replicate n z).flatten
  | c, 0, _ => by simp
  | 0, n + 1, h => by omega
  | c + 1, n + 1, h => by
    have := flat_take z c n (by omega)
    rw [List.replicate_succ, List.replicate_succ, List.flatten_cons, List.flatten_cons, Nat.add_mul, Nat.one_mul, Nat.add_comm (n * z.length), List.take_append, List.take_of_length_le (by omega)]
    simpa using this
theorem flat_length {α : Type} (z : List α) (n : Nat) : (List.replicate n z).flatten.length = n * z.length := by simp

section
variable {C : Ctx} {L0 : List AO} {o : Oper} {opn : Operand → AV}

theorem good_make {T e : TypeId} {td te : TD} {t : Ty} {x y : Operand} {k k' : IntKind} {n c : Int} {z0 : t.den} (ho : o.op = .makeSlice T x y) (ht : tdOf C.P T = some td) (hk : td.k = .slice e) (hte : tdOf C.P e = some te)
    (hsz : te.size = t.size) (hz : te.zero.length = te.size) (h0 : 0 < te.size) (hx' : opn x = .one (.int k n)) (hy' : opn y = .one (.int k' c)) (hn : 0 ≤ n) (hnc : n ≤ c) (hb : (te.bytes : Int) * c ≤ 281474976710656) (hc : c ≤ 9223372036854775807)
    (hd0 : datOf t te.zero = some z0) : GOOD C L0 o opn { av := .one (.row L0.length 0), new := [.row t e 0 (List.replicate n.toNat z0)] } := by
  intro L σ w ρ hi hx hfp hlen
  have hx1 := hx x (by simp [ho, Op.operands])
  have hx2 := hx y (by simp [ho, Op.operands])
  rw [hx'] at hx1
  rw [hy'] at hx2
  have e1 : ρ x = .int k n := hx1.2
  have e2 : ρ y = .int k' c := hx2.2
  obtain ⟨d, i, z, h1, h2, h3, h4, h5, h6, h7⟩ := td_spec ht
  rw [hk] at h7
  have := kd_slice h7; subst this
  obtain ⟨d', ie, ze, g1, g2, g3, g4, g5, g6, g7⟩ := td_spec hte
  have hrz := rc_acAll (C := C) (L := L) (σ := σ) (w := w) g4
  have hzl : ze.cells.toList.length = te.size := by rw [← hrz.length, hz]
  have hzs : ze.cells.size = te.size := by rw [← Array.length_toList, hzl]
  have hrun := run_make (P := C.P) w T e ie ze h1 g2 g3 k k' n c hn hnc (by rw [g6]; exact hb) hc
  have hmade : (madeCells ze.cells (c.toNat * ie.size)).toList = (List.replicate c.toNat ze.cells.toList).flatten := by
    have := range_map_eq ze.cells.toList (by omega) c.toNat
    rw [g5, madeCells, Array.toList_map, Array.toList_range, ← this, hzl, hzs]
  simp only [ho, execOp, e1, e2, Sem.run_bind, hrun, Result.andThen_ok, Sem.run_pure, SEMO]
  refine done_new (g := .slice (some ⟨w.heap.size, 0, none⟩) n.toNat c.toNat) hi (by simp) rfl rfl rfl (fun b hb => heap_alloc_old w _ hb) (fun b hb => by simp only [blk, Option.some.injEq] at hb; omega) (fun hp => ?_) ?_
  · refine ⟨(List.replicate n.toNat ze.cells.toList).flatten, ?_, by omega, fun i hil => ?_⟩
    · rw [sup_same]
      refine ⟨by rw [flat_length, hzl, hsz]; simp, .inr ⟨w.heap.size, c.toNat, _, by simp, Nat.zero_le _, heap_alloc_new w _, by simp; omega, by simp only [maxLen]; omega, ?_, ?_⟩⟩
      · rw [size_madeCells, g5, hsz]
      · rw [hmade, ← hsz, ← hzl]
        simp only [List.length_replicate]
        exact flat_take _ _ _ (by omega)
    · have hil' : i < n.toNat := by simpa using hil
      rw [← hsz, ← hzl, flat_rep _ _ _ hil']
      have : (List.replicate n.toNat z0).getD i t.dflt = z0 := by simp [List.getD, hil']
      rw [this]
      exact dat_of hd0 (rc_acAll g4)
  · refine ⟨rfl, .row t e 0 (List.replicate n.toNat z0), by rw [← hlen]; simp, Nat.le_refl _, fun _ _ => ⟨⟨_, _, _, rfl⟩, ?_⟩⟩
    rw [← hlen, sup_same]

/-- The bound of a slice expression. -/
def bnd (opn : Operand → AV) (d : Int) : Option Operand → Option Int
  | none => some d
  | some x => match opn x with
    | .one (.int _ i) => some i
    | _ => none

theorem bnd_spec {L : List AO} {σ : Sig} {w : World} {ρ : Operand → Value} {d i : Int} {x : Option Operand} (h : bnd opn d x = some i) (hx : ∀ y, x = some y → RV C L σ w (opn y) (ρ y)) :
    (x.map ρ = none ∧ i = d) ∨ ∃ k, x.map ρ = some (.int k i) := by
  cases x with
  | none => simp only [bnd, Option.some.injEq] at h; exact .inl ⟨rfl, h.symm⟩
  | some y =>
    simp only [bnd] at h
    split at h
    · rename_i k j hj
      simp only [Option.some.injEq] at h; subst h
      have := hx y rfl
      rw [hj] at this
      have e : ρ y = .int k j := this.2
      exact .inr ⟨k, by simp [e]⟩
    · cases h

theorem run_bounds {P : Program} {w : World} {isSlice : Bool} {len cap : Nat} {lo hi : Option Value} {l h : Int} (h0 : 0 ≤ l) (h1 : l ≤ h) (h2 : h ≤ len) (h3 : len ≤ cap)
    (hlo : (lo = none ∧ l = 0) ∨ ∃ k, lo = some (.int k l)) (hhi : (hi = none ∧ h = len) ∨ ∃ k, hi = some (.int k h)) :
    (Instr.sliceBounds isSlice len cap lo hi none).run P w = .ok (l.toNat, h.toNat, cap) w := by
  have e2 : (h.toNat : Int) = h := Int.toNat_of_nonneg (by omega)
  have e3 : h ≤ cap := by omega
  have e4 : 0 ≤ h := by omega
  rcases hlo with ⟨rfl, rfl⟩ | ⟨k, rfl⟩ <;> rcases hhi with ⟨rfl, rfl⟩ | ⟨k', rfl⟩ <;>
    simp [Instr.sliceBounds, Instr.sliceBound, asIntOf, h0, h1, e2, e3, e4] <;> omega

theorem gt_drop (t : Ty) (xs : List t.den) (l h i : Nat) (hi : i < h - l) : ((xs.take h).drop l).getD i t.dflt = xs.getD (l + i) t.dflt := by
  simp only [List.getD]
  rw [List.getElem?_drop, List.getElem?_take_of_lt (by omega)]

theorem good_slice_list {T e : TypeId} {td te : TD} {t : Ty} {xs : List t.den} {x : Operand} {lo hi : Option Operand} {l h : Int} (ho : o.op = .slice T x lo hi none) (ht : tdOf C.P T = some td) (hk : td.k = .slice e) (hte : tdOf C.P e = some te) (hsz : te.size = t.size)
    (hx' : opn x = .one (.list t xs)) (hlo : bnd opn 0 lo = some l) (hhi : bnd opn xs.length hi = some h) (h0 : 0 ≤ l) (h1 : l ≤ h) (h2 : h ≤ xs.length) :
    GOOD C L0 o opn { av := .one (.list t ((xs.take h.toNat).drop l.toNat)) } := by
  intro L σ w ρ hi' hx hfp hlen
  have hx1 := hx x (by simp [ho, Op.operands])
  rw [hx'] at hx1
  have b1 := bnd_spec hlo (fun y hy => hx y (by simp [ho, Op.operands, hy]))
  have b2 := bnd_spec hhi (fun y hy => hx y (by simp [ho, Op.operands, hy]))
  obtain ⟨A, c, e1, k1, k2, k3⟩ := hx1.2
  simp only [List.cons.injEq, and_true] at e1
  obtain ⟨d, hd, hkd, hu⟩ := td_under ht w
  rw [hk] at hkd
  have := kd_slice hkd; subst this
  have hb := run_bounds (P := C.P) (w := w) (isSlice := true) h0 h1 h2 k1 b1 b2
  have hrun : (Instr.sliceAt T (ρ x) (lo.map ρ) (hi.map ρ) none).run C.P w = .ok (.slice (if c = l.toNat then A else A.map (·.add (l.toNat * te.size))) (h.toNat - l.toNat) (c - l.toNat)) w := by
    simp only [Instr.sliceAt, Sem.run_bind, hd, Result.andThen_ok, Instr.slice, e1, hb, run_szOf hte w, Sem.run_pure]
  simp only [ho, execOp, Option.map_none, Sem.run_bind, hrun, Result.andThen_ok, Sem.run_pure, SEMO]
  clear hrun hb b1 b2 hx hfp
  have hl : ((xs.take h.toNat).drop l.toNat).length = h.toNat - l.toNat := by simp; omega
  refine done_val hi' ⟨rfl, _, c - l.toNat, by rw [hl], by omega, ⟨by have := k2.1; simp only [maxLen] at *; omega, fun hA => ?_⟩, fun h3 => ?_⟩
  · split at hA
    · omega
    · have hA' : A = none := by cases A with
        | none => rfl
        | some _ => cases hA
      have := k2.2 hA'
      omega
  rw [hl] at h3
  have f1 : 0 < xs.length := by clear k3; omega
  have f2 : ¬ c = l.toNat := by clear k3; omega
  have f3 : ∀ i, i < h.toNat - l.toNat → l.toNat + i < xs.length := by clear k3; intro i hi; omega
  obtain ⟨b, o1, rfl, k4, k5, k6⟩ := k3 f1
  rw [if_neg f2]
  refine ⟨b, o1 + l.toNat * t.size, by simp [add_lit, hsz], k4, k5, fun i hil => ?_⟩
  rw [hl] at hil
  obtain ⟨cs', q1, q2, q3⟩ := k6 (l.toNat + i) (f3 i hil)
  refine ⟨cs', q1, fun j hj => ?_, ?_⟩
  · rw [← q2 j hj, Nat.add_mul]
    simp only [Nat.add_assoc]
  · rw [gt_drop t xs l.toNat h.toNat i hil]
    exact q3

theorem good_slice_str {T : TypeId} {td : TD} {s : List UInt8} {x : Operand} {lo hi : Option Operand} {l h : Int} (ho : o.op = .slice T x lo hi none) (ht : tdOf C.P T = some td) (hk : td.k = .str)
    (hx' : opn x = .one (.str s)) (hlo : bnd opn 0 lo = some l) (hhi : bnd opn s.length hi = some h) (h0 : 0 ≤ l) (h1 : l ≤ h) (h2 : h ≤ s.length) :
    GOOD C L0 o opn { av := .one (.str ((s.take h.toNat).drop l.toNat)) } := by
  intro L σ w ρ hi' hx hfp hlen
  have hx1 := hx x (by simp [ho, Op.operands])
  rw [hx'] at hx1
  have e1 : ρ x = .string ⟨s.toArray⟩ := hx1.2
  have b1 := bnd_spec hlo (fun y hy => hx y (by simp [ho, Op.operands, hy]))
  have b2 := bnd_spec hhi (fun y hy => hx y (by simp [ho, Op.operands, hy]))
  obtain ⟨d, hd, hkd, hu⟩ := td_under ht w
  rw [hk] at hkd
  have := kd_str hkd; subst this
  have hb := run_bounds (P := C.P) (w := w) (isSlice := false) h0 h1 h2 (Nat.le_refl _) b1 b2
  have hsz : (⟨s.toArray⟩ : ByteArray).size = s.length := rfl
  have hrun : (Instr.sliceAt T (ρ x) (lo.map ρ) (hi.map ρ) none).run C.P w = .ok (.string ((⟨s.toArray⟩ : ByteArray).extract l.toNat h.toNat)) w := by
    simp only [Instr.sliceAt, Sem.run_bind, hd, Result.andThen_ok, Instr.slice, e1, hsz, Option.isSome_none, Bool.false_eq_true, if_false, Sem.run_pure, hb]
  have hex : (⟨s.toArray⟩ : ByteArray).extract l.toNat h.toNat = ⟨((s.take h.toNat).drop l.toNat).toArray⟩ := by
    apply ByteArray.ext
    apply Array.ext'
    rw [ByteArray.data_extract]
    simp [List.drop_take]
  simp only [ho, execOp, Option.map_none, Sem.run_bind, hrun, Result.andThen_ok, Sem.run_pure, SEMO]
  exact done_val hi' ⟨rfl, by rw [hex]; rfl⟩

/-! ### slices of own rows, nil slices -/
/-- The first elements of an own row. -/
theorem good_slice_row {T e : TypeId} {td te : TD} {t : Ty} {e' : TypeId} {xs : List t.den} {x : Operand} {k ver : Nat} {lo hi : Option Operand} {h : Int} (ho : o.op = .slice T x lo hi none) (ht : tdOf C.P T = some td) (hk : td.k = .slice e) (hte : tdOf C.P e = some te) (hsz : te.size = t.size)
    (hx' : opn x = .one (.row k ver)) (hob : L0[k]? = some (.row t e' ver xs)) (hlo : bnd opn 0 lo = some 0) (hhi : bnd opn xs.length hi = some h) (h1 : 0 ≤ h) (h2 : h ≤ xs.length) :
    GOOD C L0 o opn { av := .one (.row k (ver + 1)), upd := [(k, .row t e' (ver + 1) (xs.take h.toNat))], fp := [k] } := by
  intro L σ w ρ hi' hx hfp hlen
  have hx1 := hx x (by simp [ho, Op.operands])
  rw [hx'] at hx1
  have b1 := bnd_spec hlo (fun y hy => hx y (by simp [ho, Op.operands, hy]))
  have b2 := bnd_spec hhi (fun y hy => hx y (by simp [ho, Op.operands, hy]))
  have hob' : L[k]? = some (.row t e' ver xs) := by rw [hfp k (by simp)]; exact hob
  obtain ⟨ob, q2, q3, q4⟩ := hx1.2
  rw [hob'] at q2; cases q2
  obtain ⟨_, e1⟩ := q4 rfl rfl
  obtain ⟨flat, h5, h6, h7⟩ := hi'.ob k _ hob'
  obtain ⟨d, hd, hkd, hu⟩ := td_under ht w
  rw [hk] at hkd
  have := kd_slice hkd; subst this
  have hblk : blk (σ k) = (σ k).ownBlock := blk_own (own_not_ptr h5)
  have hlt : k < L.length := (List.getElem?_eq_some_iff.1 hob').1
  have htl : (xs.take h.toNat).length = h.toNat := by simp; omega
  have key : ∃ v', (Instr.sliceAt T (σ k) (lo.map ρ) (hi.map ρ) none).run C.P w = .ok v' w ∧ blk v' = blk (σ k) ∧ v'.oneCell' = true ∧ w.ownsRow 0 e' t.size v' (xs.take h.toNat).length (flat.take (h.toNat * t.size)) := by
    rcases h5.2 with ⟨e2, e3⟩ | ⟨g, cap, cur, e2, g1, g2, g3, g4, g5, g6⟩
    · have hxl : xs.length = 0 := e3
      have hb := run_bounds (P := C.P) (w := w) (isSlice := true) (len := 0) (cap := 0) (Int.le_refl 0) h1 (by omega) (Nat.le_refl _) b1 (by rw [hxl] at b2; exact b2)
      have hh0 : h.toNat = 0 := by omega
      refine ⟨.slice none 0 0, ?_, by rw [e2], rfl, ?_⟩
      · rw [e2]
        simp only [Instr.sliceAt, Sem.run_bind, hd, Result.andThen_ok, Instr.slice, hb, run_szOf hte w, Sem.run_pure]
        simp [hh0]
      · rw [hh0]; exact ⟨by simp, .inl ⟨rfl, by simp⟩⟩
    · have hb := run_bounds (P := C.P) (w := w) (isSlice := true) (len := xs.length) (cap := cap) (Int.le_refl 0) h1 h2 g3 b1 b2
      refine ⟨.slice (some ⟨g, 0, none⟩) h.toNat cap, ?_, by rw [e2]; rfl, rfl, ?_⟩
      · rw [e2]
        simp only [Instr.sliceAt, Sem.run_bind, hd, Result.andThen_ok, Instr.slice, hb, run_szOf hte w, Sem.run_pure]
        by_cases hc : cap = 0
        · simp [hc]
        · simp [hc, add_lit]
      · have hm : h.toNat * t.size ≤ xs.length * t.size := Nat.mul_le_mul_right _ (by omega)
        have hfl := h5.1
        refine ⟨by simp [htl]; omega, .inr ⟨g, cap, cur, by rw [htl], g1, g2, by rw [htl]; omega, g4, g5, ?_⟩⟩
        rw [htl, ← g6, List.take_take, Nat.min_eq_left hm]
  obtain ⟨v', r1, r2, r3, r4⟩ := key
  simp only [ho, execOp, e1, Option.map_none, Sem.run_bind, r1, Result.andThen_ok, Sem.run_pure, SEMO]
  refine done_upd (σ' := sup σ k v') hi' hob' (Nat.le_refl _) rfl rfl rfl (fun _ _ _ => rfl) (fun j hj => sup_other σ v' hj) ⟨Nat.le_succ _, fun _ h => by simp [AO.ver] at h⟩
    (fun _ j hj => ?_) (fun hp hav => ?_) (fun hI _ => ?_)
  · rw [sup_same, r2] at hj
    exact .inl ⟨_, hob', rfl, hj⟩
  · refine ⟨flat.take (h.toNat * t.size), by rw [sup_same]; exact r4, h6, fun i hil => ?_⟩
    rw [htl] at hil
    have hm : (i + 1) * t.size ≤ h.toNat * t.size := Nat.mul_le_mul_right _ hil
    rw [Nat.add_mul, Nat.one_mul] at hm
    have e3 : (xs.take h.toNat).getD i t.dflt = xs.getD i t.dflt := by simp [List.getD, List.getElem?_take_of_lt hil]
    have e4 : ((flat.take (h.toNat * t.size)).drop (i * t.size)).take t.size = (flat.drop (i * t.size)).take t.size := by
      rw [List.drop_take, List.take_take, Nat.min_eq_left (by omega)]
    rw [e3, e4]
    exact (h7 i (by omega)).keep (Nat.le_refl _) (fun _ _ _ => rfl) hav
  · exact ⟨r3, .row t e' (ver + 1) (xs.take h.toNat), by simp [hlt], Nat.le_refl _, fun _ _ => ⟨⟨_, _, _, rfl⟩, (sup_same _ _ _).symm⟩⟩

theorem good_slice_nil {T e : TypeId} {td te : TD} {x : Operand} {lo hi : Option Operand} (ho : o.op = .slice T x lo hi none) (ht : tdOf C.P T = some td) (hk : td.k = .slice e) (hte : tdOf C.P e = some te)
    (hx' : opn x = .one .nils) (hlo : bnd opn 0 lo = some 0) (hhi : bnd opn 0 hi = some 0) : GOOD C L0 o opn { av := .one .nils } := by
  intro L σ w ρ hi' hx hfp hlen
  have hx1 := hx x (by simp [ho, Op.operands])
  rw [hx'] at hx1
  have e1 : ρ x = .slice none 0 0 := hx1.2
  have b1 := bnd_spec hlo (fun y hy => hx y (by simp [ho, Op.operands, hy]))
  have b2 := bnd_spec hhi (fun y hy => hx y (by simp [ho, Op.operands, hy]))
  obtain ⟨d, hd, hkd, hu⟩ := td_under ht w
  rw [hk] at hkd
  have := kd_slice hkd; subst this
  have hb := run_bounds (P := C.P) (w := w) (isSlice := true) (len := 0) (cap := 0) (Int.le_refl 0) (Int.le_refl 0) (Int.le_refl 0) (Nat.le_refl _) b1 b2
  have hrun : (Instr.sliceAt T (ρ x) (lo.map ρ) (hi.map ρ) none).run C.P w = .ok (.slice none 0 0) w := by
    rw [e1]
    simp only [Instr.sliceAt, Sem.run_bind, hd, Result.andThen_ok, Instr.slice, hb, run_szOf hte w, Sem.run_pure]
    simp
  simp only [ho, execOp, Option.map_none, Sem.run_bind, hrun, Result.andThen_ok, Sem.run_pure, SEMO]
  exact done_val hi' ⟨rfl, rfl⟩

/-! ### maps -/
def mlook : List (KV × Int) → KV → Option Int
  | [], _ => none
  | p :: r, k => if p.1 = k then some p.2 else mlook r k
def mput (es : List (KV × Int)) (k : KV) (n : Int) : List (KV × Int) :=
  if (mlook es k).isSome then es.map (fun p => if p.1 = k then (k, n) else p) else es ++ [(k, n)]
theorem mlook_mem {k : KV} {n : Int} : ∀ {es : List (KV × Int)}, (es.map (·.1)).Nodup → (k, n) ∈ es → mlook es k = some n
  | [], _, h => by cases h
  | p :: r, hn, h => by
    simp only [List.map_cons, List.nodup_cons] at hn
    simp only [mlook]
    rcases List.mem_cons.1 h with h | h
    · subst h; simp
    · rw [if_neg, mlook_mem hn.2 h]
      intro e
      exact hn.1 (List.mem_map.2 ⟨_, h, e.symm⟩)
theorem mlook_none {k : KV} : ∀ {es : List (KV × Int)}, (∀ p, p ∈ es → p.1 ≠ k) → mlook es k = none
  | [], _ => rfl
  | p :: r, h => by
    simp only [mlook]
    rw [if_neg (h p (by simp)), mlook_none fun q hq => h q (by simp [hq])]
theorem mlook_some {k : KV} {n : Int} : ∀ {es : List (KV × Int)}, mlook es k = some n → (k, n) ∈ es
  | [], h => by cases h
  | p :: r, h => by
    simp only [mlook] at h
    split at h
    · rename_i e
      simp only [Option.some.injEq] at h
      subst e h; simp
    · exact List.mem_cons_of_mem _ (mlook_some h)
theorem mput_mem {es : List (KV × Int)} {k : KV} {n : Int} {p : KV × Int} (h : p ∈ mput es k n) : p.1 = k ∨ p ∈ es := by
  unfold mput at h
  split at h
  · obtain ⟨q, hq, rfl⟩ := List.mem_map.1 h
    split
    · exact .inl rfl
    · exact .inr hq
  · rcases List.mem_append.1 h with h | h
    · exact .inr h
    · simp at h; subst h; exact .inl rfl
theorem mput_nodup {es : List (KV × Int)} {k : KV} {n : Int} (h : (es.map (·.1)).Nodup) : ((mput es k n).map (·.1)).Nodup := by
  unfold mput
  split
  · have : (es.map (fun p => if p.1 = k then (k, n) else p)).map (·.1) = es.map (·.1) := by
      rw [List.map_map]
      refine List.map_congr_left fun p _ => ?_
      simp only [Function.comp]
      split
      · rename_i e; exact e.symm
      · rfl
    rw [this]; exact h
  · rename_i hs
    rw [List.map_append, List.nodup_append]
    refine ⟨h, by simp, fun a ha b hb => ?_⟩
    simp at hb; subst hb
    intro e; subst e
    obtain ⟨p, hp, e⟩ := List.mem_map.1 ha
    have : mlook es p.1 = some p.2 := mlook_mem h (by cases p; exact hp)
    rw [e] at this
    rw [this] at hs
    exact hs rfl

theorem KV.val_inj : ∀ {a b : KV}, a.val = b.val → a = b
  | .int m, .int n, h => by simp only [KV.val, Value.int.injEq, true_and] at h; rw [h]
  | .str s, .str t, h => by
    simp only [KV.val, Value.string.injEq, ByteArray.mk.injEq] at h
    have h2 := congrArg Array.toList h
    simp only [List.toList_toArray] at h2
    rw [h2]
  | .arr l, .arr r, h => by
    simp only [KV.val, Value.agg.injEq] at h
    have h2 := congrArg Array.toList h
    simp only [List.toList_toArray] at h2
    have : ∀ (l r : List Int), l.map (Value.int .i64) = r.map (Value.int .i64) → l = r := by
      intro l
      induction l with
      | nil => intro r h; cases r with | nil => rfl | cons _ _ => cases h
      | cons x l ih =>
        intro r h
        cases r with
        | nil => cases h
        | cons y r =>
          simp only [List.map_cons, List.cons.injEq, Value.int.injEq, true_and] at h
          rw [h.1, ih r h.2]
    rw [this l r h2]
  | .int _, .str _, h => by cases h
  | .int _, .arr _, h => by cases h
  | .str _, .int _, h => by cases h
  | .str _, .arr _, h => by cases h
  | .arr _, .int _, h => by cases h
  | .arr _, .str _, h => by cases h

theorem mapM_some {α β : Type} {f : α → Option β} : ∀ {l : List α}, (∀ x, x ∈ l → ∃ y, f x = some y) → ∃ ys, l.mapM f = some ys
  | [], _ => ⟨[], rfl⟩
  | x :: l, h => by
    obtain ⟨y, hy⟩ := h x (by simp)
    obtain ⟨ys, hys⟩ := mapM_some fun z hz => h z (List.mem_cons_of_mem _ hz)
    exact ⟨y :: ys, by rw [List.mapM_cons, hy, hys]; rfl⟩

theorem wf_i64 {n : Int} (h : -9223372036854775808 ≤ n ∧ n ≤ 9223372036854775807) : (Lit.int .i64 n).wf = true := by
  have e1 : IntKind.i64.min = -9223372036854775808 := by decide
  have e2 : IntKind.i64.max = 9223372036854775807 := by decide
  simp [Lit.wf, e1, e2]
  omega

theorem kk_spec {P : Program} {k : TypeId} {kk : KK} (h : kkOf P k = some kk) : Maps.Keyed P k ∧ ∀ key, KVok kk key → ∃ l, keyOf P k key.val = some l := by
  unfold kkOf at h
  split at h
  · rename_i hu
    simp only [Option.some.injEq] at h; subst h
    refine ⟨Maps.int_keyed hu, fun key hk => ?_⟩
    cases key with
    | int n => exact ⟨.int .i64 n, by simp [keyOf, hu, mapKey, KV.val, wf_i64 hk]⟩
    | _ => exact hk.elim
  · rename_i hu
    simp only [Option.some.injEq] at h; subst h
    refine ⟨Maps.string_keyed hu, fun key hk => ?_⟩
    cases key with
    | str s =>
      have : (⟨s.toArray⟩ : ByteArray).size ≤ maxLen := by
        have e : (⟨s.toArray⟩ : ByteArray).size = s.length := rfl
        rw [e]; simp only [KVok] at hk; simp only [maxLen]; omega
      exact ⟨.string s, by simp [keyOf, hu, mapKey, KV.val, this]⟩
    | _ => exact hk.elim
  · rename_i n e hu
    split at h
    · rename_i he
      split at h
      · rename_i hc
        simp only [Option.some.injEq] at h; subst h
        simp only [Bool.and_eq_true, decide_eq_true_eq, beq_iff_eq] at hc
        obtain ⟨⟨⟨⟨⟨c1, c2⟩, c3⟩, c4⟩, c5⟩, c6⟩ := hc
        refine ⟨Maps.Keyed.of_law (deep_law_laid c1 (by decide) c4 c2 (by rw [hu])), fun key hk => ?_⟩
        cases key with
        | arr l =>
          obtain ⟨hl, hr⟩ := hk
          have hlits : ∃ ls, P.keyLits (P.types.size + 1) k (l.map (Value.int .i64)) = some ls := by
            obtain ⟨s, hs⟩ : ∃ s, P.types.size = s + 1 := Nat.exists_eq_succ_of_ne_zero (fun e => by rw [e] at c4; exact absurd c4 (Nat.not_lt_zero _))
            rw [hs]
            simp only [Program.keyLits, hu, he]
            rw [if_pos (by simp [hl, c6])]
            obtain ⟨ys, hys⟩ := mapM_some (l := List.range n) (f := fun i => match ((l.map (Value.int .i64)).drop (i * P.cellsOf e)).take (P.cellsOf e) with | [.int q' m] => if q' = IntKind.i64 ∧ (Lit.int .i64 m).wf = true then some [Lit.int .i64 m] else none | _ => none) (fun i hi => by
              simp only [List.mem_range] at hi
              have hlt : i < l.length := by omega
              rw [c5, Nat.mul_one]
              have : ((l.map (Value.int .i64)).drop i).take 1 = [.int .i64 l[i]] := by
                rw [List.drop_eq_getElem_cons (by simpa using hlt)]; simp
              rw [this]
              exact ⟨[.int .i64 l[i]], by simp [wf_i64 (hr _ (List.getElem_mem hlt))]⟩)
            refine ⟨ys.flatten, ?_⟩
            have hfe : (fun i => match ((l.map (Value.int .i64)).drop (i * P.cellsOf e)).take (P.cellsOf e) with | [.int q' m] => if q' = IntKind.i64 ∧ (Lit.int .i64 m).wf = true then some [Lit.int .i64 m] else none | _ => none) = fun i => P.keyLits (s + 1) e (((l.map (Value.int .i64)).drop (i * P.cellsOf e)).take (P.cellsOf e)) := by
              funext i
              simp only [Program.keyLits, he]
              generalize ((l.map (Value.int .i64)).drop (i * P.cellsOf e)).take (P.cellsOf e) = z
              rcases z with _ | ⟨v, _ | ⟨u, r⟩⟩
              · rfl
              · cases v <;> rfl
              · cases v <;> rfl
            rw [hfe] at hys
            simp only [Program.keyLits, he] at hys ⊢
            rw [hys]; rfl
          obtain ⟨ls, hls⟩ := hlits
          exact ⟨.string (keyBytes ls), by simp [keyOf, hu, c3, KV.val, Value.formed, Value.cells, hl, c6, hls]⟩
        | _ => exact hk.elim
      · cases h
    · cases h
  · cases h

theorem mk_spec {P : Program} {T : TypeId} {mk : MK} (h : mkOf P T = some mk) : P.underlying T = some (.map mk.k mk.e) ∧ Maps.Keyed P mk.k ∧ (∀ key, KVok mk.kk key → ∃ l, keyOf P mk.k key.val = some l) ∧ ∀ w, (zeroValue mk.e).run P w = .ok (mk.vk.val 0) w := by
  unfold mkOf at h
  split at h
  · rename_i k e hu
    split at h
    · rename_i kk vk h1 h2
      simp only [Option.some.injEq] at h; subst h
      refine ⟨hu, (kk_spec h1).1, (kk_spec h1).2, fun w => ?_⟩
      unfold vkOf at h2
      cases hi : P.info? e with
      | none => rw [hi] at h2; simp at h2
      | some i =>
        rw [hi] at h2
        simp only [Option.bind_some] at h2
        split at h2
        · rename_i hz
          simp only [Option.some.injEq] at h2; subst h2
          simp [zeroValue, typeInfo, hi, hz, VK.val]
        · rename_i hz
          simp only [Option.some.injEq] at h2; subst h2
          simp [zeroValue, typeInfo, hi, hz, VK.val]
        · cases h2
    · cases h
  · cases h

theorem good_makeMap {T : TypeId} {mk : MK} (ho : o.op = .makeMap T none) (hm : mkOf C.P T = some mk) : GOOD C L0 o opn { av := .one (.mpv L0.length), new := [.mp T mk.vk []] } := by
  intro L σ w ρ hi hx hfp hlen
  have hrun : (Instr.makeMap T none).run C.P w = .ok (.map (some w.heap.size)) (w.alloc (.map #[] 0)) := run_makeMap T w
  simp only [ho, execOp, Option.map_none, Sem.run_bind, hrun, Result.andThen_ok, Sem.run_pure, SEMO]
  refine done_new (g := .map (some w.heap.size)) hi (by simp) rfl rfl rfl (fun b hb => heap_alloc_old w _ hb) (fun b hb => by simp only [blk, Option.some.injEq] at hb; omega) (fun hp => ?_) ?_
  · exact ⟨w.heap.size, #[], 0, sup_same _ _ _, heap_alloc_new w _, rfl, by simp, mk, hm, rfl, fun p hp => by cases hp⟩
  · exact ⟨rfl, .mp T mk.vk [], by rw [← hlen]; simp, fun _ _ => ⟨⟨_, _, _, rfl⟩, by rw [← hlen, sup_same]⟩⟩

/-- What lies behind a map's value. -/
theorem behind_map {L : List AO} {σ : Sig} {w : World} (hi : INV C L σ w) {k : Nat} {T : TypeId} {vk : VK} {es : List (KV × Int)} (hob : L[k]? = some (.mp T vk es)) {u : Value} (hu : RC C L σ w (.mpv k) u) :
    ∃ b ents clock mk, u = .map (some b) ∧ σ k = .map (some b) ∧ w.heap[b]? = some (.map ents clock) ∧ ents.toList.map (fun x => (x.key, x.val)) = es.map (fun p => (p.1.val, vk.val p.2)) ∧ (es.map (·.1)).Nodup ∧ mkOf C.P T = some mk ∧ mk.vk = vk ∧ (∀ p, p ∈ es → KVok mk.kk p.1) := by
  obtain ⟨_, ob, h2, h4⟩ := hu
  rw [hob] at h2; cases h2
  obtain ⟨_, e1⟩ := h4 rfl rfl
  obtain ⟨b, ents, clock, e2, e3, e4, e5, mk, e6, e7, e8⟩ := hi.ob k _ hob
  exact ⟨b, ents, clock, mk, by rw [e1, e2], e2, e3, e4, e5, e6, e7, e8⟩

theorem find_map {P : Program} {w : World} {mk : MK} {ents : Array MapEntry} {es : List (KV × Int)} {vk : VK} (K : Maps.Keyed P mk.k) (hkey : ∀ key, KVok mk.kk key → ∃ l, keyOf P mk.k key.val = some l)
    (he : ents.toList.map (fun x => (x.key, x.val)) = es.map (fun p => (p.1.val, vk.val p.2))) (hn : (es.map (·.1)).Nodup) (hok : ∀ p, p ∈ es → KVok mk.kk p.1) {key : KV} (hk : KVok mk.kk key) :
    ((Instr.findKey mk.k key.val ents.toList).run P w = .ok none w ∧ mlook es key = none) ∨
    ∃ j e0 n, (Instr.findKey mk.k key.val ents.toList).run P w = .ok (some (j, vk.val n)) w ∧ mlook es key = some n ∧ ents.toList[j]? = some e0 ∧ e0.key = key.val ∧ es[j]? = some (key, n) := by
  have hat : ∀ (j : Nat) (x : MapEntry), ents.toList[j]? = some x → ∃ p, es[j]? = some p ∧ x.key = p.1.val ∧ x.val = vk.val p.2 := by
    intro j x hx
    have h1 : (ents.toList.map (fun x => (x.key, x.val)))[j]? = some (x.key, x.val) := by rw [List.getElem?_map, hx]; rfl
    rw [he, List.getElem?_map] at h1
    cases hp : es[j]? with
    | none => rw [hp] at h1; cases h1
    | some p =>
      rw [hp] at h1
      simp only [Option.map_some, Option.some.injEq, Prod.mk.injEq] at h1
      exact ⟨p, rfl, h1.1.symm, h1.2.symm⟩
  obtain ⟨lk, hlk⟩ := hkey key hk
  have hall : ∀ e, e ∈ ents.toList → ∃ l, keyOf P mk.k e.key = some l := by
    intro e hm
    obtain ⟨j, hj⟩ := List.getElem?_of_mem hm
    obtain ⟨p, hp, e1, _⟩ := hat j e hj
    rw [e1]
    exact hkey p.1 (hok p (List.mem_of_getElem? hp))
  rcases K.find w hlk ents.toList hall with ⟨h1, h2⟩ | ⟨j, e0, h1, h2, h3⟩
  · refine .inl ⟨h1, mlook_none fun p hp e => ?_⟩
    obtain ⟨j, hj⟩ := List.getElem?_of_mem hp
    have hlt : j < ents.toList.length := by
      have := congrArg List.length he
      simp only [List.length_map] at this
      rw [this]; exact (List.getElem?_eq_some_iff.1 hj).1
    obtain ⟨q, hq, e1, _⟩ := hat j _ (List.getElem?_eq_getElem hlt)
    rw [hj] at hq; cases hq
    exact h2 _ (List.getElem_mem hlt) (by rw [e1, e])
  · obtain ⟨p, hp, e1, e2⟩ := hat j e0 h2
    have e3 : p.1 = key := KV.val_inj (by rw [← e1, h3])
    obtain ⟨pk, pn⟩ := p
    simp only at e1 e2 e3
    subst e3
    refine .inr ⟨j, e0, pn, by rw [h1, e2], mlook_mem hn (List.mem_of_getElem? hp), h2, h3, hp⟩

def keyAV : AV → Option KV
  | .one (.int .i64 n) => some (.int n)
  | .one (.str s) => some (.str s)
  | .agg cs => (intsAC cs).map .arr
  | _ => none
 where
  intsAC : List AC → Option (List Int)
  | [] => some []
  | .int .i64 n :: r => (intsAC r).map (n :: ·)
  | _ => none
theorem ints_ac : ∀ l : List Int, keyAV.intsAC (l.map (AC.int .i64)) = some l
  | [] => rfl
  | n :: l => by simp [keyAV.intsAC, ints_ac l]
theorem intsAC_inv {L : List AO} {σ : Sig} {w : World} : ∀ {cs : List AC} {l : List Int} {vs : List Value}, keyAV.intsAC cs = some l → All2 (fun c u => RC C L σ w c u) cs vs → vs = l.map (Value.int .i64)
  | [], l, vs, h, ha => by
    simp only [keyAV.intsAC, Option.some.injEq] at h; subst h
    rw [ha.none]; rfl
  | c :: r, l, vs, h, ha => by
    cases vs with
    | nil => exact ha.elim
    | cons v vs =>
      cases c with
      | int k n =>
        cases k with
        | i64 =>
          simp only [keyAV.intsAC, Option.map_eq_some_iff] at h
          obtain ⟨l', h1, rfl⟩ := h
          have e : v = .int .i64 n := ha.1.2
          rw [e, intsAC_inv h1 ha.2]; rfl
        | _ => simp [keyAV.intsAC] at h
      | _ => simp [keyAV.intsAC] at h
theorem key_val {L : List AO} {σ : Sig} {w : World} {v : AV} {key : KV} {u : Value} (h : keyAV v = some key) (hr : RV C L σ w v u) : u = key.val := by
  unfold keyAV at h
  split at h
  · simp only [Option.some.injEq] at h; subst h; exact hr.2
  · simp only [Option.some.injEq] at h; subst h; exact hr.2
  · simp only [Option.map_eq_some_iff] at h
    obtain ⟨l, h1, rfl⟩ := h
    obtain ⟨vs, e, ha⟩ := hr
    rw [e, intsAC_inv h1 ha]; rfl
  · cases h

def VK.ac : VK → Int → AC
  | .int, n => .int .i64 n
  | .bool, n => .bool (decide (n ≠ 0))
theorem vk_rc {L : List AO} {σ : Sig} {w : World} (vk : VK) (n : Int) : RC C L σ w (vk.ac n) (vk.val n) := by
  cases vk <;> exact ⟨rfl, rfl⟩

theorem good_lookup {T : TypeId} {x ix : Operand} {ok : Bool} {k : Nat} {vk : VK} {es : List (KV × Int)} {key : KV} {mk : MK} (ho : o.op = .lookup T x ix ok) (hx' : opn x = .one (.mpv k)) (hob : L0[k]? = some (.mp T vk es)) (hm : mkOf C.P T = some mk)
    (hk : keyAV (opn ix) = some key) (hok : KVok mk.kk key) :
    GOOD C L0 o opn { av := if ok then .tup [.one (vk.ac ((mlook es key).getD 0)), .one (.bool (mlook es key).isSome)] else .one (vk.ac ((mlook es key).getD 0)), fp := [k] } := by
  intro L σ w ρ hi hx hfp hlen
  have hx1 := hx x (by simp [ho, Op.operands])
  have hx2 := key_val hk (hx ix (by simp [ho, Op.operands]))
  rw [hx'] at hx1
  have hob' : L[k]? = some (.mp T vk es) := by rw [hfp k (by simp)]; exact hob
  obtain ⟨b, ents, clock, mk', e1, e2, e3, e4, e5, e6, e7, e8⟩ := behind_map hi hob' hx1
  rw [hm] at e6; cases e6
  obtain ⟨s1, s2, s3, s4⟩ := mk_spec hm
  obtain ⟨lk, hlk⟩ := s3 key hok
  have hrun : (Instr.lookup T (.map (some b)) key.val ok).run C.P w = .ok (if ok then .tuple #[vk.val ((mlook es key).getD 0), .bool (mlook es key).isSome] else vk.val ((mlook es key).getD 0)) w := by
    rcases find_map (w := w) s2 s3 e4 e5 e8 hok with ⟨h1, h2⟩ | ⟨j, e0, n, h1, h2, _⟩
    · rw [h2, ← e7]
      simp [Instr.lookup, run_underlying s1, MapKept.run_getObj_map e3, s2.check w _ hlk, h1, s4 w, Result.andThen]
    · rw [h2]
      simp [Instr.lookup, run_underlying s1, MapKept.run_getObj_map e3, s2.check w _ hlk, h1, Result.andThen]
  simp only [ho, execOp, e1, hx2, Sem.run_bind, hrun, Result.andThen_ok, Sem.run_pure, SEMO]
  refine done_val hi ?_
  cases ok
  · exact vk_rc vk _
  · exact ⟨_, rfl, vk_rc vk _, ⟨rfl, rfl⟩, trivial⟩

theorem good_mapUpdate {T : TypeId} {m x v : Operand} {k : Nat} {vk : VK} {es : List (KV × Int)} {key : KV} {n : Int} {mk : MK} (ho : o.op = .mapUpdate T m x v) (hx' : opn m = .one (.mpv k)) (hob : L0[k]? = some (.mp T vk es)) (hm : mkOf C.P T = some mk)
    (hk : keyAV (opn x) = some key) (hok : KVok mk.kk key) (hv : opn v = .one (vk.ac n)) :
    GOOD C L0 o opn { av := .undef, upd := [(k, .mp T vk (mput es key n))], fp := [k] } := by
  intro L σ w ρ hi hx hfp hlen
  have hx1 := hx m (by simp [ho, Op.operands])
  have hx2 := key_val hk (hx x (by simp [ho, Op.operands]))
  have hx3 := hx v (by simp [ho, Op.operands])
  rw [hx'] at hx1
  rw [hv] at hx3
  have hob' : L[k]? = some (.mp T vk es) := by rw [hfp k (by simp)]; exact hob
  obtain ⟨b, ents, clock, mk', e1, e2, e3, e4, e5, e6, e7, e8⟩ := behind_map hi hob' hx1
  rw [hm] at e6; cases e6
  obtain ⟨s1, s2, s3, s4⟩ := mk_spec hm
  obtain ⟨lk, hlk⟩ := s3 key hok
  have hvv : ρ v = vk.val n := by cases vk <;> exact hx3.2
  have hrun : ∃ ents' clock', (Instr.mapUpdate T (.map (some b)) key.val (vk.val n)).run C.P w = .ok () (ChangeMaps.setBlock w b (.map ents' clock')) ∧ ents'.toList.map (fun x => (x.key, x.val)) = (mput es key n).map (fun p => (p.1.val, vk.val p.2)) := by
    rcases find_map (w := w) s2 s3 e4 e5 e8 hok with ⟨h1, h2⟩ | ⟨j, e0, n0, h1, h2, h3, h4, h5⟩
    · refine ⟨ents.push ⟨key.val, vk.val n, clock⟩, clock + 1, ?_, ?_⟩
      · simp [Instr.mapUpdate, run_underlying s1, MapKept.run_getObj_map e3, s2.check w _ hlk, h1, MapKept.run_setObj_map _ e3, Result.andThen, ChangeMaps.setBlock]
      · unfold mput
        rw [h2]
        simp [← e4]
    · have hj : ents[j]? = some e0 := by simpa using h3
      refine ⟨ents.modify j (fun e' => { e' with key := key.val, val := vk.val n }), clock, ?_, ?_⟩
      · simp [Instr.mapUpdate, run_underlying s1, MapKept.run_getObj_map e3, s2.check w _ hlk, h1, hj, h4, s2.stays w hlk, MapKept.run_setObj_map _ e3, Result.andThen, ChangeMaps.setBlock]
      · have hlist : (ents.modify j (fun e' => { e' with key := key.val, val := vk.val n })).toList = ents.toList.set j { e0 with key := key.val, val := vk.val n } := by rw [Array.toList_modify, ChangeMaps.modify_eq_set _ _ _ _ h3]
        rw [hlist, List.map_set, e4]
        unfold mput
        rw [h2]
        simp only [Option.isSome_some, if_true]
        have hlt := (List.getElem?_eq_some_iff.1 h5).1
        apply List.ext_getElem?
        intro i
        rw [List.getElem?_set, List.getElem?_map, List.map_map, List.getElem?_map]
        by_cases hij : j = i
        · subst hij
          rw [if_pos rfl, h5]
          simp [hlt]
        · rw [if_neg hij]
          cases hp : es[i]? with
          | none => rfl
          | some p =>
            have hne : p.1 ≠ key := by
              intro e
              have hlt2 := (List.getElem?_eq_some_iff.1 hp).1
              have := (List.getElem_inj (h₀ := by simpa using hlt) (h₁ := by simpa using hlt2) e5).1 (by
                simp only [List.getElem_map]
                rw [(List.getElem?_eq_some_iff.1 h5).2, (List.getElem?_eq_some_iff.1 hp).2, e])
              exact hij this
            simp [hne]
  obtain ⟨ents', clock', r1, r2⟩ := hrun
  have hown : own L σ k b := ⟨_, hob', rfl, by rw [e2]; rfl⟩
  simp only [ho, execOp, e1, hx2, hvv, Sem.run_bind, r1, Result.andThen_ok, Sem.run_pure, SEMO]
  refine done_upd (σ' := σ) hi hob' (by simp [ChangeMaps.setBlock]) rfl rfl rfl
    (fun j hj hno => ChangeMaps.heap_setBlock_other e3 _ (fun e => by subst e; exact hno hown)) (fun _ _ => rfl) ⟨Nat.le_refl _, fun _ _ => ⟨rfl, rfl, rfl, ⟨_, rfl⟩⟩⟩
    (fun _ j hj => .inl ⟨_, hob', rfl, hj⟩) (fun hp hav => ?_) (fun _ _ => trivial)
  refine ⟨b, ents', clock', e2, ChangeMaps.heap_setBlock_same e3 _, r2, mput_nodup e5, mk, hm, e7, fun p hp => ?_⟩
  rcases mput_mem hp with h | h
  · rw [h]; exact hok
  · exact e8 p h

theorem good_lenMap {T : TypeId} {x : Operand} {ats : Array TypeId} {k : Nat} {vk : VK} {es : List (KV × Int)} (ho : o.op = .call { callee := .builtin .len, args := #[x], argTypes := ats }) (ha : ats[0]? = some T) (hx' : opn x = .one (.mpv k)) (hob : L0[k]? = some (.mp T vk es)) :
    GOOD C L0 o opn { av := .one (.int .i64 (es.length : Int)), fp := [k] } := by
  intro L σ w ρ hi hx hfp hlen
  have hx1 := hx x (by simp [ho, Op.operands, Call.operands])
  rw [hx'] at hx1
  have hob' : L[k]? = some (.mp T vk es) := by rw [hfp k (by simp)]; exact hob
  obtain ⟨b, ents, clock, mk', e1, e2, e3, e4, e5, e6, e7, e8⟩ := behind_map hi hob' hx1
  obtain ⟨s1, s2, s3, s4⟩ := mk_spec e6
  have hl : ents.size = es.length := by
    have := congrArg List.length e4
    simpa using this
  have hrun : (Builtin.len_ ats o.type #[.map (some b)]).run C.P w = .ok (.int .i64 (es.length : Int)) w := by
    have ha' : ats.getD 0 0 = T := by simp [Array.getD_eq_getD_getElem?, ha]
    simp [Builtin.len_, ha', ha, run_underlying s1, MapKept.run_getObj_map e3, goInt, Result.andThen, hl]
  simp only [ho, execOp, resolve, invoke, builtin, List.map_toArray, List.map_cons, List.map_nil, e1, Sem.run_bind, Sem.run_pure, Result.andThen_ok, hrun, SEMO]
  exact done_val hi ⟨rfl, rfl⟩

/-! ### max, min; parts of a struct compared; a slice grown with zeros; rows of cells -/
theorem max_if (a b : Int) : (if b > a then b else a) = max a b := by split <;> omega
theorem min_if (a b : Int) : (if b < a then b else a) = min a b := by split <;> omega

theorem good_max {x y : Operand} {ats : Array TypeId} {k : IntKind} {a b : Int} (ho : o.op = .call { callee := .builtin .max, args := #[x, y], argTypes := ats }) (hx' : opn x = .one (.int k a)) (hy' : opn y = .one (.int k b)) : GOOD C L0 o opn { av := .one (.int k (max a b)) } := by
  intro L σ w ρ hi hx hfp hlen
  have hx1 := hx x (by simp [ho, Op.operands, Call.operands])
  have hx2 := hx y (by simp [ho, Op.operands, Call.operands])
  rw [hx'] at hx1
  rw [hy'] at hx2
  have e1 : ρ x = .int k a := hx1.2
  have e2 : ρ y = .int k b := hx2.2
  have hrun : (Builtin.max_ ats o.type #[.int k a, .int k b]).run C.P w = .ok (.int k (max a b)) w := by
    simp [Builtin.max_, Builtin.max2, max_if]
  simp only [ho, execOp, resolve, invoke, builtin, List.map_toArray, List.map_cons, List.map_nil, e1, e2, Sem.run_bind, Sem.run_pure, Result.andThen_ok, hrun, SEMO]
  exact done_val hi ⟨rfl, rfl⟩

theorem good_min {x y : Operand} {ats : Array TypeId} {k : IntKind} {a b : Int} (ho : o.op = .call { callee := .builtin .min, args := #[x, y], argTypes := ats }) (hx' : opn x = .one (.int k a)) (hy' : opn y = .one (.int k b)) : GOOD C L0 o opn { av := .one (.int k (min a b)) } := by
  intro L σ w ρ hi hx hfp hlen
  have hx1 := hx x (by simp [ho, Op.operands, Call.operands])
  have hx2 := hx y (by simp [ho, Op.operands, Call.operands])
  rw [hx'] at hx1
  rw [hy'] at hx2
  have e1 : ρ x = .int k a := hx1.2
  have e2 : ρ y = .int k b := hx2.2
  have hrun : (Builtin.min_ ats o.type #[.int k a, .int k b]).run C.P w = .ok (.int k (min a b)) w := by
    simp [Builtin.min_, Builtin.min2, min_if]
  simp only [ho, execOp, resolve, invoke, builtin, List.map_toArray, List.map_cons, List.map_nil, e1, e2, Sem.run_bind, Sem.run_pure, Result.andThen_ok, hrun, SEMO]
  exact done_val hi ⟨rfl, rfl⟩

theorem good_capNil {T : TypeId} {td : TD} {x : Operand} {ats : Array TypeId} (ho : o.op = .call { callee := .builtin .cap, args := #[x], argTypes := ats }) (ha : ats[0]? = some T) (ht : tdOf C.P T = some td) (hk : ∃ e, td.k = .slice e) (hx' : opn x = .one .nils) : GOOD C L0 o opn { av := .one (.int .i64 0) } := by
  intro L σ w ρ hi hx hfp hlen
  have hx1 := hx x (by simp [ho, Op.operands, Call.operands])
  rw [hx'] at hx1
  have e1 : ρ x = .slice none 0 0 := hx1.2
  have hrun : (Builtin.cap_ ats o.type #[.slice none 0 0]).run C.P w = .ok (.int .i64 0) w := by
    obtain ⟨e, hk⟩ := hk
    obtain ⟨d, hd, hkd, hu⟩ := td_under ht w
    rw [hk] at hkd
    have := kd_slice hkd; subst this
    simp [Builtin.cap_, goInt, ha, hd]
  simp only [ho, execOp, resolve, invoke, builtin, List.map_toArray, List.map_cons, List.map_nil, e1, Sem.run_bind, Sem.run_pure, Result.andThen_ok, hrun, SEMO]
  exact done_val hi ⟨rfl, rfl⟩

/-- The kinds of a struct's fields, if each is one plain cell. -/
def flatFs (P : Program) : Nat → List Field → Option (List Nat)
  | _, [] => some []
  | i, f :: fs => if f.name != "_" && f.offset == i && P.plainKey f.type then
      match P.underlying f.type, flatFs P (i + 1) fs with
      | some (.int _), some r => some (0 :: r)
      | some .bool, some r => some (1 :: r)
      | some .string, some r => some (2 :: r)
      | _, _ => none
    else none
def flatOf (P : Program) (T : TypeId) : Option (List Nat) :=
  match P.underlying T with
  | some (.struct fs) => if !P.stoodInHeld T && !P.eqGuardType P.depth T then flatFs P 0 fs.toList else none
  | _ => none
def eqAC : Nat → AC → AC → Option Bool
  | 0, .int k a, .int k' b => if k = k' then some (decide (a = b)) else none
  | 1, .bool a, .bool b => some (decide (a = b))
  | 2, .str a, .str b => some (decide (a = b))
  | _, _, _ => none
def eqACs : List Nat → List AC → List AC → Option Bool
  | [], [], [] => some true
  | k :: ks, a :: as, b :: bs => match eqAC k a b, eqACs ks as bs with
    | some x, some y => some (x && y)
    | _, _ => none
  | _, _, _ => none

theorem run_flat {L : List AO} {σ : Sig} {w : World} {xs ys : Array Value} (d : Nat) : ∀ {fs : List Field} {i : Nat} {ks : List Nat} {as bs : List AC} {r : Bool}, flatFs C.P i fs = some ks → eqACs ks as bs = some r →
    All2 (fun c u => RC C L σ w c u) as (xs.toList.drop i) → All2 (fun c u => RC C L σ w c u) bs (ys.toList.drop i) → (Op.eqFields (d + 1) xs ys fs).run C.P w = .ok r w
  | [], i, ks, as, bs, r, hf, he, _, _ => by
    simp only [flatFs, Option.some.injEq] at hf; subst hf
    cases as with
    | nil => cases bs with
      | nil => simp only [eqACs, Option.some.injEq] at he; subst he; simp [Op.eqFields]
      | cons _ _ => cases he
    | cons _ _ => cases bs <;> cases he
  | f :: fs, i, ks, as, bs, r, hf, he, ha, hb => by
    simp only [flatFs] at hf
    split at hf
    · rename_i hc
      simp only [Bool.and_eq_true, bne_iff_ne, ne_eq, beq_iff_eq] at hc
      obtain ⟨⟨hc1, hc2⟩, hc3⟩ := hc
      have main : ∀ {q : Nat} {rs : List Nat}, ks = q :: rs → flatFs C.P (i + 1) fs = some rs → (∀ a b x u v, eqAC q a b = some x → RC C L σ w a u → RC C L σ w b v → (Op.equalIn (d + 1) f.type u v).run C.P w = .ok x w) → (Op.eqFields (d + 1) xs ys (f :: fs)).run C.P w = .ok r w := by
        intro q rs hks hrs heq
        subst hks
        cases as with
        | nil => cases bs <;> cases he
        | cons a as =>
          cases bs with
          | nil => cases he
          | cons b bs =>
            simp only [eqACs] at he
            split at he
            · rename_i x y h1 h2
              simp only [Option.some.injEq] at he; subst he
              cases hxs : xs.toList.drop i with
              | nil => rw [hxs] at ha; exact ha.elim
              | cons u us =>
                cases hys : ys.toList.drop i with
                | nil => rw [hys] at hb; exact hb.elim
                | cons v vs =>
                  rw [hxs] at ha
                  rw [hys] at hb
                  have hu : xs[f.offset]? = some u := by
                    rw [hc2]
                    have : (xs.toList.drop i)[0]? = some u := by rw [hxs]; rfl
                    rw [List.getElem?_drop] at this
                    simpa using this
                  have hv : ys[f.offset]? = some v := by
                    rw [hc2]
                    have : (ys.toList.drop i)[0]? = some v := by rw [hys]; rfl
                    rw [List.getElem?_drop] at this
                    simpa using this
                  have hus : xs.toList.drop (i + 1) = us := by
                    have : (xs.toList.drop i).drop 1 = us := by rw [hxs]; rfl
                    rwa [List.drop_drop] at this
                  have hvs : ys.toList.drop (i + 1) = vs := by
                    have : (ys.toList.drop i).drop 1 = vs := by rw [hys]; rfl
                    rwa [List.drop_drop] at this
                  have ih := run_flat d hrs h2 (by rw [hus]; exact ha.2) (by rw [hvs]; exact hb.2)
                  have hp1 := run_part_plain (P := C.P) (w := w) hc3 hu
                  have hp2 := run_part_plain (P := C.P) (w := w) hc3 hv
                  have hq := heq a b x u v h1 ha.1 hb.1
                  simp only [Op.eqFields, ne_eq, hc1, not_false_eq_true, if_true, Sem.run_bind, hp1, hp2, Result.andThen_ok, hq]
                  cases x
                  · simp
                  · simp only [Bool.not_true, Bool.false_eq_true, if_false, ih, Bool.true_and]
            · cases he
      split at hf
      · rename_i q rs hu hrs
        simp only [Option.some.injEq] at hf
        refine main hf.symm hrs fun a b x u v h h1 h2 => ?_
        cases a <;> cases b <;> simp only [eqAC, reduceCtorEq] at h
        split at h
        · rename_i ek; subst ek
          simp only [Option.some.injEq] at h; subst h
          rw [show u = _ from h1.2, show v = _ from h2.2]
          simp [Op.equalIn, run_underlying hu]
          rfl
        · cases h
      · rename_i rs hu hrs
        simp only [Option.some.injEq] at hf
        refine main hf.symm hrs fun a b x u v h h1 h2 => ?_
        cases a <;> cases b <;> simp only [eqAC, reduceCtorEq, Option.some.injEq] at h
        subst h
        rename_i p q
        rw [show u = _ from h1.2, show v = _ from h2.2]
        simp [Op.equalIn, run_underlying hu]
        cases p <;> cases q <;> rfl
      · rename_i rs hu hrs
        simp only [Option.some.injEq] at hf
        refine main hf.symm hrs fun a b x u v h h1 h2 => ?_
        cases a <;> cases b <;> simp only [eqAC, reduceCtorEq, Option.some.injEq] at h
        subst h
        rename_i p q
        rw [show u = _ from h1.2, show v = _ from h2.2]
        simp [Op.equalIn, run_underlying hu, beq_toListBytes, ByteArray.toList_eq]
        exact Bool.eq_iff_iff.2 (by simp)
      · cases hf
    · cases hf

/-- == and != on structs of plain cells. -/
theorem good_eqFlat {T Ty' : TypeId} {x y : Operand} {as bs : List AC} {ks : List Nat} {r : Bool} {neg : Bool} (ho : o.op = .binOp (if neg then .neq else .eql) T x y Ty') (hf : flatOf C.P T = some ks) (hx' : opn x = .agg as) (hy' : opn y = .agg bs) (he : eqACs ks as bs = some r) :
    GOOD C L0 o opn { av := .one (.bool (if neg then !r else r)) } := by
  intro L σ w ρ hi hx hfp hlen
  have hx1 := hx x (by simp [ho, Op.operands])
  have hx2 := hx y (by simp [ho, Op.operands])
  rw [hx'] at hx1
  rw [hy'] at hx2
  obtain ⟨us, e1, h1⟩ := hx1
  obtain ⟨vs, e2, h2⟩ := hx2
  unfold flatOf at hf
  split at hf
  · rename_i fs hu
    split at hf
    · rename_i hc
      simp only [Bool.and_eq_true, Bool.not_eq_true'] at hc
      have hfo : C.P.fieldsOf T = fs := by simp [Program.fieldsOf, hu]
      have hrun : (Op.equal T (.agg us.toArray) (.agg vs.toArray)).run C.P w = .ok r w := by
        show (Op.equalIn (9999 + 1) T _ _).run C.P w = _
        rw [run_equalIn_struct w 9999 T us.toArray vs.toArray (by rw [hfo]; exact hu) hc.1, hfo]
        exact run_flat (C := C) (L := L) (σ := σ) (w := w) 9998 hf he (by simpa using h1) (by simpa using h2)
      have hg : (eqGuard (if neg then .neq else .eql) T x y (.agg us.toArray) (.agg vs.toArray)).run C.P w = .ok () w := by
        unfold eqGuard
        cases neg <;> simp [hc.2]
      simp only [ho, execOp, e1, e2, Sem.run_bind, hg, Result.andThen_ok]
      cases neg
      · simp only [Bool.false_eq_true, if_false, binOp, Sem.run_bind, hrun, Result.andThen_ok, Sem.run_pure, SEMO]
        exact done_val hi ⟨rfl, rfl⟩
      · simp only [if_true, binOp, Sem.run_bind, hrun, Result.andThen_ok, Sem.run_pure, SEMO]
        exact done_val hi ⟨rfl, rfl⟩
    · cases hf
  · cases hf

theorem zero_list (z : Value) (n : Nat) (hz : 0 < z.cells.size) : (Builtin.zeroCells z.cells n).toList = (List.replicate n z.cells.toList).flatten := by
  have := range_map_eq z.cells.toList (by simpa using hz) n
  simp only [Builtin.zeroCells, Array.toList_map, Array.toList_range]
  rw [← this]
  simp

theorem good_append_zeros {T T2 e : TypeId} {td td2 te : TD} {t : Ty} {x y : Operand} {ats : Array TypeId} {n : Int} {z0 : t.den} (ho : o.op = .call { callee := .builtin .append, args := #[x, y], argTypes := ats }) (ha : ats = #[T, T2]) (ht : tdOf C.P T = some td) (hk : td.k = .slice e)
    (ht2 : tdOf C.P T2 = some td2) (hk2 : ∃ q, td2.k = .int q) (hte : tdOf C.P e = some te) (hsz : te.size = t.size) (hz : te.zero.length = te.size) (h0 : 0 < te.size) (hx' : opn x = .one .nils) (hy' : opn y = .one (.int .i64 n)) (hn : 0 < n)
    (hb : n * (te.bytes : Int) ≤ 140737488355328) (hml : n ≤ 9223372036854775807) (hd0 : datOf t te.zero = some z0) : GOOD C L0 o opn { av := .one (.row L0.length 0), new := [.row t e 0 (List.replicate n.toNat z0)] } := by
  intro L σ w ρ hi hx hfp hlen
  have hx1 := hx x (by simp [ho, Op.operands, Call.operands])
  have hx2 := hx y (by simp [ho, Op.operands, Call.operands])
  rw [hx'] at hx1
  rw [hy'] at hx2
  have e1 : ρ x = .slice none 0 0 := hx1.2
  have e2 : ρ y = .int .i64 n := hx2.2
  obtain ⟨d, i, z, h1, h2, h3, h4, h5, h6, h7⟩ := td_spec ht
  rw [hk] at h7
  have := kd_slice h7; subst this
  obtain ⟨d', ie, ze, g1, g2, g3, g4, g5, g6, g7⟩ := td_spec hte
  obtain ⟨d2, i2, z2, f1, f2, f3, f4, f5, f6, f7⟩ := td_spec ht2
  obtain ⟨q, hq⟩ := hk2
  rw [hq] at f7
  have : d2 = .int q := by cases d2 <;> simp [kdOf] at f7; rw [f7]
  subst this
  have hrz := rc_acAll (C := C) (L := L) (σ := σ) (w := w) g4
  have hzl : ze.cells.toList.length = te.size := by rw [← hrz.length, hz]
  have hzs : ze.cells.size = te.size := by rw [← Array.length_toList, hzl]
  obtain ⟨m, rfl⟩ : ∃ m : Nat, n = m := ⟨n.toNat, by omega⟩
  have hm0 : 0 < m := by omega
  have hw : IntKind.i64.wrap (m : Int) = m := wrap_in (k := .i64) (by rw [inK_i64]; omega)
  have hb' : m * ie.bytes ≤ 140737488355328 := by
    have h9 : ((m * ie.bytes : Nat) : Int) ≤ (140737488355328 : Nat) := by rw [Int.natCast_mul, g6]; exact hb
    exact Int.ofNat_le.1 h9
  have hge := grownCap_ge w m 0 e
  have hcm : grownCap w m 0 e ≤ maxLen := grownCap_le_maxLen w m 0 e (by simp only [maxLen]; omega)
  have hrun : (Builtin.append_ #[T, T2] o.type #[.slice none 0 0, .int .i64 (m : Int)]).run C.P w =
      .ok (.slice (some ⟨w.heap.size, 0, none⟩) m (grownCap w m 0 e)) (w.drew.alloc (.cells (Builtin.zeroCells ze.cells m ++ Builtin.zeroCells ze.cells (grownCap w m 0 e - m)) e)) := by
    have a1 : ¬ ((m : Int) < 0) := by omega
    have a2 : ¬ (281474976710656 < (m : Int) * (ie.bytes : Int)) := by
      rw [g6]; omega
    have a3 : ¬ (9223372036854775807 < (m : Int)) := by omega
    have a4 : ¬ (281474976710656 < Builtin.nextslicecap m 0 * ie.bytes) := by rw [nextslicecap_zero hm0]; omega
    have a5 : m ≠ 0 := by omega
    have a6 : ie.size ≠ 0 := by omega
    have a7 : ¬ (m * ie.size = 0) := Nat.mul_ne_zero a5 a6
    simp [Builtin.append_, run_underlying h1, run_underlying f1, sizeOf, typeInfo, zeroValue, g2, g3, asInt, asIntOf, hw, a1, a2, a3, a4, a5, a6, a7, Question.forced, Builtin.firstCells, newRow, grownCap]
  simp only [ho, ha, execOp, resolve, invoke, builtin, e1, e2, Sem.run_bind, Sem.run_pure, Result.andThen_ok, List.map_toArray, List.map_cons, List.map_nil, hrun, SEMO]
  refine done_new (g := .slice (some ⟨w.heap.size, 0, none⟩) m (grownCap w m 0 e)) hi (by simp) rfl rfl rfl (fun b hb => heap_alloc_old w.drew _ hb) (fun b hb => by simp only [blk, Option.some.injEq] at hb; omega) (fun hp => ?_) ?_
  · refine ⟨(List.replicate m ze.cells.toList).flatten, ?_, by omega, fun i hil => ?_⟩
    · rw [sup_same]
      refine ⟨by rw [flat_length, hzl, hsz]; simp, .inr ⟨w.heap.size, grownCap w m 0 e, _, by simp, Nat.zero_le _, heap_alloc_new w.drew _, by simp; omega, hcm, ?_, ?_⟩⟩
      · simp only [Array.size_append, size_zeroCells, hzs, ← Nat.add_mul, hsz]
        congr 1; omega
      · rw [Array.toList_append, zero_list _ _ (by omega), List.take_append_of_le_length (by rw [flat_length, hzl, hsz]; simp), List.take_of_length_le (by rw [flat_length, hzl, hsz]; simp)]
    · have hil' : i < m := by simpa using hil
      rw [← hsz, ← hzl, flat_rep _ _ _ hil']
      have : (List.replicate (m : Int).toNat z0).getD i t.dflt = z0 := by simp [List.getD, hil']
      rw [this]
      exact dat_of hd0 (rc_acAll g4)
  · refine ⟨rfl, .row t e 0 (List.replicate (m : Int).toNat z0), by rw [← hlen]; simp, Nat.le_refl _, fun _ _ => ⟨⟨_, _, _, rfl⟩, ?_⟩⟩
    rw [← hlen, sup_same]

/-- make, as a row of cells. -/
theorem good_make_rowc {T e : TypeId} {td te : TD} {x y : Operand} {k k' : IntKind} {n c : Int} (ho : o.op = .makeSlice T x y) (ht : tdOf C.P T = some td) (hk : td.k = .slice e) (hte : tdOf C.P e = some te)
    (hz : te.zero.length = te.size) (h0 : 0 < te.size) (hx' : opn x = .one (.int k n)) (hy' : opn y = .one (.int k' c)) (hn : 0 ≤ n) (hnc : n ≤ c) (hb : (te.bytes : Int) * c ≤ 281474976710656) (hc : c ≤ 9223372036854775807) :
    GOOD C L0 o opn { av := .one (.rwc L0.length 0), new := [.rowc e te.size 0 (rep te.zero n.toNat)] } := by
  intro L σ w ρ hi hx hfp hlen
  have hx1 := hx x (by simp [ho, Op.operands])
  have hx2 := hx y (by simp [ho, Op.operands])
  rw [hx'] at hx1
  rw [hy'] at hx2
  have e1 : ρ x = .int k n := hx1.2
  have e2 : ρ y = .int k' c := hx2.2
  obtain ⟨d, i, z, h1, h2, h3, h4, h5, h6, h7⟩ := td_spec ht
  rw [hk] at h7
  have := kd_slice h7; subst this
  obtain ⟨d', ie, ze, g1, g2, g3, g4, g5, g6, g7⟩ := td_spec hte
  have hrz := rc_acAll (C := C) (L := L) (σ := σ) (w := w) g4
  have hzl : ze.cells.toList.length = te.size := by rw [← hrz.length, hz]
  have hzs : ze.cells.size = te.size := by rw [← Array.length_toList, hzl]
  have hrun := run_make (P := C.P) w T e ie ze h1 g2 g3 k k' n c hn hnc (by rw [g6]; exact hb) hc
  have hmade : (madeCells ze.cells (c.toNat * ie.size)).toList = (List.replicate c.toNat ze.cells.toList).flatten := by
    have := range_map_eq ze.cells.toList (by omega) c.toNat
    rw [g5, madeCells, Array.toList_map, Array.toList_range, ← this, hzl, hzs]
  simp only [ho, execOp, e1, e2, Sem.run_bind, hrun, Result.andThen_ok, Sem.run_pure, SEMO]
  refine done_new (g := .slice (some ⟨w.heap.size, 0, none⟩) n.toNat c.toNat) hi (by simp) rfl rfl rfl (fun b hb => heap_alloc_old w _ hb) (fun b hb => by simp only [blk, Option.some.injEq] at hb; omega) (fun hp => ?_) ?_
  · refine ⟨(List.replicate n.toNat ze.cells.toList).flatten, n.toNat, ?_, h0, by rw [rep_length, hz], ?_⟩
    · rw [sup_same]
      refine ⟨by rw [flat_length, hzl], .inr ⟨w.heap.size, c.toNat, _, by simp, Nat.zero_le _, heap_alloc_new w _, by omega, by simp only [maxLen]; omega, ?_, ?_⟩⟩
      · rw [size_madeCells, g5]
      · rw [hmade, ← hzl]
        exact flat_take _ _ _ (by omega)
    · exact rc_rep (rc_acAll g4) n.toNat
  · refine ⟨rfl, .rowc e te.size 0 (rep te.zero n.toNat), by rw [← hlen]; simp, Nat.le_refl _, fun _ _ => ⟨⟨_, _, _, rfl⟩, ?_⟩⟩
    rw [← hlen, sup_same]

/-- A new variable in a place that was kept free: a row of one element. -/
theorem good_alloc_hole {T : TypeId} {td : TD} {k : Nat} {t : Ty} {d : t.den} (ho : o.op = .alloc T) (ht : tdOf C.P T = some td) (hob : L0[k]? = some (.dead 0)) (hd : datOf t td.zero = some d) (hs : td.size = t.size) (h0 : 0 < t.size) (hz : td.zero.length = td.size) :
    GOOD C L0 o opn { av := .one (.ptr k 1 0 0), upd := [(k, .row t T 1 [d])], fp := [k] } := by
  intro L σ w ρ hi hx hfp hlen
  obtain ⟨z, hz1, hcs⟩ := run_zero ht w
  have hrz := rc_acAll (C := C) (L := L) (σ := σ) (w := w) hcs
  have hzl : z.cells.toList.length = t.size := by rw [← hrz.length, hz, hs]
  have hob' : L[k]? = some (.dead 0) := by rw [hfp k (by simp)]; exact hob
  have hlt : k < L.length := (List.getElem?_eq_some_iff.1 hob').1
  simp only [ho, execOp, Instr.alloc, newVar, newRow, Sem.run_bind, hz1, run_newObj, Sem.run_pure, Result.andThen_ok, SEMO]
  refine done_upd (σ' := sup σ k (.slice (some ⟨w.heap.size, 0, none⟩) 1 1)) hi hob' (by simp) rfl rfl rfl (fun b hb _ => heap_alloc_old w _ hb) (fun j hj => sup_other σ _ hj) ⟨Nat.zero_le _, fun _ h => by simp [AO.ver] at h⟩
    (fun _ b hb => by rw [sup_same] at hb; simp only [blk, Option.some.injEq] at hb; exact .inr (by omega)) (fun hp hav => ?_) (fun _ _ => ?_)
  · refine ⟨z.cells.toList, ?_, h0, fun i hil => ?_⟩
    · rw [sup_same]
      refine ⟨by simp [hzl], .inr ⟨w.heap.size, 1, z.cells, by simp, Nat.zero_le _, heap_alloc_new w _, by simp, by simp only [maxLen]; omega, by rw [← Array.length_toList, hzl]; simp, ?_⟩⟩
      rw [List.take_of_length_le (by simp [hzl])]
    · have : i = 0 := by simp at hil; omega
      subst this
      simp only [Nat.zero_mul, List.drop_zero]
      rw [List.take_of_length_le (by omega)]
      exact dat_of hd (rc_acAll hcs)
  · exact ⟨rfl, .row t T 1 [d], by simp [hlt], Nat.le_refl _, fun _ _ => ⟨w.heap.size, by rw [sup_same]; rfl, by simp [AO.esize]⟩⟩

/-- make, as a list that changes no more. -/
theorem good_make_list {T e : TypeId} {td te : TD} {t : Ty} {x y : Operand} {k k' : IntKind} {n c : Int} {z0 : t.den} (ho : o.op = .makeSlice T x y) (ht : tdOf C.P T = some td) (hk : td.k = .slice e) (hte : tdOf C.P e = some te)
    (hsz : te.size = t.size) (hz : te.zero.length = te.size) (h0 : 0 < te.size) (hx' : opn x = .one (.int k n)) (hy' : opn y = .one (.int k' c)) (hn : 0 ≤ n) (hnc : n ≤ c) (hb : (te.bytes : Int) * c ≤ 281474976710656) (hc : c ≤ 9223372036854775807)
    (hd0 : datOf t te.zero = some z0) : GOOD C L0 o opn { av := .one (.list t (List.replicate n.toNat z0)) } := by
  intro L σ w ρ hi hx hfp hlen
  have hx1 := hx x (by simp [ho, Op.operands])
  have hx2 := hx y (by simp [ho, Op.operands])
  rw [hx'] at hx1
  rw [hy'] at hx2
  have e1 : ρ x = .int k n := hx1.2
  have e2 : ρ y = .int k' c := hx2.2
  obtain ⟨d, i, z, h1, h2, h3, h4, h5, h6, h7⟩ := td_spec ht
  rw [hk] at h7
  have := kd_slice h7; subst this
  obtain ⟨d', ie, ze, g1, g2, g3, g4, g5, g6, g7⟩ := td_spec hte
  have hrz := rc_acAll (C := C) (L := L) (σ := σ) (w := w) g4
  have hzl : ze.cells.toList.length = te.size := by rw [← hrz.length, hz]
  have hzs : ze.cells.size = te.size := by rw [← Array.length_toList, hzl]
  have hrun := run_make (P := C.P) w T e ie ze h1 g2 g3 k k' n c hn hnc (by rw [g6]; exact hb) hc
  have hmade : (madeCells ze.cells (c.toNat * ie.size)).toList = (List.replicate c.toNat ze.cells.toList).flatten := by
    have := range_map_eq ze.cells.toList (by omega) c.toNat
    rw [g5, madeCells, Array.toList_map, Array.toList_range, ← this, hzl, hzs]
  simp only [ho, execOp, e1, e2, Sem.run_bind, hrun, Result.andThen_ok, Sem.run_pure, SEMO]
  refine done_more hi (by simp) rfl rfl rfl (fun b hb => heap_alloc_old w _ hb) (fun hI hp => ?_)
  refine ⟨rfl, some ⟨w.heap.size, 0, none⟩, c.toNat, by simp, by simp; omega, ⟨by simp only [maxLen]; omega, fun h => by cases h⟩, fun h0' => ⟨w.heap.size, 0, rfl, ?_, by simp, fun i hil => ?_⟩⟩
  · rintro (hx0 | ⟨k, hk0⟩)
    · have := hi.xlt _ hx0; have := hi.size; omega
    · have := own_lt hi hk0; omega
  · have hil' : i < n.toNat := by simpa using hil
    have : (List.replicate n.toNat z0).getD i t.dflt = z0 := by simp [List.getD, hil']
    rw [this]
    refine ⟨ze.cells.toList, by rw [hzl, hsz], fun j hj => ?_, dat_of hd0 (rc_acAll g4)⟩
    have hic : i < c.toNat := by omega
    have hfr := flat_rep ze.cells.toList c.toNat i hic
    rw [cell_at (heap_alloc_new w _)]
    have : (madeCells ze.cells (c.toNat * ie.size))[0 + i * t.size + j]? = (madeCells ze.cells (c.toNat * ie.size)).toList[i * t.size + j]? := by simp
    have hj' : j < ze.cells.toList.length := by rw [hzl, hsz]; exact hj
    rw [this, hmade, ← hsz, ← hzl, ← List.getElem?_drop, ← List.getElem?_take_of_lt hj', hfr]

end
end Go.AV
