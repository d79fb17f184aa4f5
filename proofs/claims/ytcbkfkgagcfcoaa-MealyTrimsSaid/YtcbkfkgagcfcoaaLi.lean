/- The evaluator's operations, sixth part: make, slices of slices and strings. -/
import Derived.Test.YtcbkfkgagcfcoaaLh
set_option linter.unusedSimpArgs false
set_option linter.unusedVariables false
namespace Go.AV
open Go Go.RowKit

theorem flat_rep {α : Type} (z : List α) : ∀ (n i : Nat), i < n → ((List.replicate n z).flatten.drop (i * z.length)).take z.length = z
  | 0, _, h => by omega
  | n + 1, 0, _ => by simp [List.replicate_succ]
  | n + 1, i + 1, h => by
    have := flat_rep z n i (by omega)
    rw [List.replicate_succ, List.flatten_cons, Nat.add_mul, Nat.one_mul, Nat.add_comm (i * z.length), List.drop_append, List.drop_eq_nil_of_le (by omega)]
    simpa using this
theorem flat_take {α : Type} (z : List α) : ∀ (c n : Nat), n ≤ c → (List.replicate c z).flatten.take (n * z.length) = (List.replicate n z).flatten
  | c, 0, _ => by simp
  | 0, n + 1, h => by omega
  | c + 1, n + 1, h => by
    have := flat_take z c n (by omega)
    rw [List.replicate_succ, List.replicate_succ, List.flatten_cons, List.flatten_cons, Nat.add_mul, Nat.one_mul, Nat.add_comm (n * z.length), List.take_append, List.take_of_length_le (by omega)]
    simpa using this
theorem flat_length {α : Type} (z : List α) (n : Nat) : (List.replicate n z).flatten.length = n * z.length := by simp

section
variable {C : Ctx} {L0 : List AO} {o : Oper} {opn : Operand → AV}

theorem good_make {T e : TypeId} {td te : TD} {t : Ty} {x y : Operand} {k k' : IntKind} {n c : Int} {z0 : t.den} (ho : o.op = .makeSlice T x y) (ht : tdOf C.P T = some td) (hk : td.k = .slice e) (hte : tdOf C.P e = some te)
    (hsz : te.size = t.size) (hz : te.zero.length = te.size) (h0 : 0 < te.size) (hx' : opn x = .one (.int k n)) (hy' : opn y = .one (.int k' c)) (hn : 0 ≤ n) (hnc : n ≤ c) (hb : (te.bytes : Int) * c ≤ 281474976710656) (hc : c ≤ 9223372036854775807)
    (hd0 : datOf t te.zero = some z0) : GOOD C L0 o opn { av := .one (.row L0.length 0), new := [.row t e 0 (List.replicate n.toNat z0)] } := by
  intro L σ w ρ hi hx hfp hlen
  have hx1 := hx x (by simp [ho, Op.operands])
  have hx2 := hx y (by simp [ho, Op.operands])
  rw [hx'] at hx1
  rw [hy'] at hx2
  have e1 : ρ x = .int k n := hx1.2
  have e2 : ρ y = .int k' c := hx2.2
  obtain ⟨d, i, z, h1, h2, h3, h4, h5, h6, h7⟩ := td_spec ht
  rw [hk] at h7
  have := kd_slice h7; subst this
  obtain ⟨d', ie, ze, g1, g2, g3, g4, g5, g6, g7⟩ := td_spec hte
  have hrz := rc_acAll (C := C) (L := L) (σ := σ) (w := w) g4
  have hzl : ze.cells.toList.length = te.size := by rw [← hrz.length, hz]
  have hzs : ze.cells.size = te.size := by rw [← Array.length_toList, hzl]
  have hrun := run_make (P := C.P) w T e ie ze h1 g2 g3 k k' n c hn hnc (by rw [g6]; exact hb) hc
  have hmade : (madeCells ze.cells (c.toNat * ie.size)).toList = (List.replicate c.toNat ze.cells.toList).flatten := by
    have := range_map_eq ze.cells.toList (by omega) c.toNat
    rw [g5, madeCells, Array.toList_map, Array.toList_range, ← this, hzl, hzs]
  simp only [ho, execOp, e1, e2, Sem.run_bind, hrun, Result.andThen_ok, Sem.run_pure, SEMO]
  refine done_new (g := .slice (some ⟨w.heap.size, 0, none⟩) n.toNat c.toNat) hi (by simp) rfl rfl rfl (fun b hb => heap_alloc_old w _ hb) (fun b hb => by simp only [blk, Option.some.injEq] at hb; omega) (fun hp => ?_) ?_
  · refine ⟨(List.replicate n.toNat ze.cells.toList).flatten, ?_, by omega, fun i hil => ?_⟩
    · rw [sup_same]
      refine ⟨by rw [flat_length, hzl, hsz]; simp, .inr ⟨w.heap.size, c.toNat, _, by simp, Nat.zero_le _, heap_alloc_new w _, by simp; omega, by simp only [maxLen]; omega, ?_, ?_⟩⟩
      · rw [size_madeCells, g5, hsz]
      · rw [hmade, ← hsz, ← hzl]
        simp only [List.length_replicate]
        exact flat_take _ _ _ (by omega)
    · have hil' : i < n.toNat := by simpa using hil
      rw [← hsz, ← hzl, flat_rep _ _ _ hil']
      have : (List.replicate n.toNat z0).getD i t.dflt = z0 := by simp [List.getD, hil']
      rw [this]
      exact dat_of hd0 (rc_acAll g4)
  · refine ⟨rfl, .row t e 0 (List.replicate n.toNat z0), by rw [← hlen]; simp, Nat.le_refl _, fun _ _ => ⟨⟨_, _, _, rfl⟩, ?_⟩⟩
    rw [← hlen, sup_same]

/-- The bound of a slice expression. -/
def bnd (opn : Operand → AV) (d : Int) : Option Operand → Option Int
  | none => some d
  | some x => match opn x with
    | .one (.int _ i) => some i
    | _ => none

theorem bnd_spec {L : List AO} {σ : Sig} {w : World} {ρ : Operand → Value} {d i : Int} {x : Option Operand} (h : bnd opn d x = some i) (hx : ∀ y, x = some y → RV C L σ w (opn y) (ρ y)) :
    (x.map ρ = none ∧ i = d) ∨ ∃ k, x.map ρ = some (.int k i) := by
  cases x with
  | none => simp only [bnd, Option.some.injEq] at h; exact .inl ⟨rfl, h.symm⟩
  | some y =>
    simp only [bnd] at h
    split at h
    · rename_i k j hj
      simp only [Option.some.injEq] at h; subst h
      have := hx y rfl
      rw [hj] at this
      have e : ρ y = .int k j := this.2
      exact .inr ⟨k, by simp [e]⟩
    · cases h

theorem run_bounds {P : Program} {w : World} {isSlice : Bool} {len cap : Nat} {lo hi : Option Value} {l h : Int} (h0 : 0 ≤ l) (h1 : l ≤ h) (h2 : h ≤ len) (h3 : len ≤ cap)
    (hlo : (lo = none ∧ l = 0) ∨ ∃ k, lo = some (.int k l)) (hhi : (hi = none ∧ h = len) ∨ ∃ k, hi = some (.int k h)) :
    (Instr.sliceBounds isSlice len cap lo hi none).run P w = .ok (l.toNat, h.toNat, cap) w := by
  have e2 : (h.toNat : Int) = h := Int.toNat_of_nonneg (by omega)
  have e3 : h ≤ cap := by omega
  have e4 : 0 ≤ h := by omega
  rcases hlo with ⟨rfl, rfl⟩ | ⟨k, rfl⟩ <;> rcases hhi with ⟨rfl, rfl⟩ | ⟨k', rfl⟩ <;>
    simp [Instr.sliceBounds, Instr.sliceBound, asIntOf, h0, h1, e2, e3, e4] <;> omega

theorem gt_drop (t : Ty) (xs : List t.den) (l h i : Nat) (hi : i < h - l) : ((xs.take h).drop l).getD i t.dflt = xs.getD (l + i) t.dflt := by
  simp only [List.getD]
  rw [List.getElem?_drop, List.getElem?_take_of_lt (by omega)]

theorem good_slice_list {T e : TypeId} {td te : TD} {t : Ty} {xs : List t.den} {x : Operand} {lo hi : Option Operand} {l h : Int} (ho : o.op = .slice T x lo hi none) (ht : tdOf C.P T = some td) (hk : td.k = .slice e) (hte : tdOf C.P e = some te) (hsz : te.size = t.size)
    (hx' : opn x = .one (.list t xs)) (hlo : bnd opn 0 lo = some l) (hhi : bnd opn xs.length hi = some h) (h0 : 0 ≤ l) (h1 : l ≤ h) (h2 : h ≤ xs.length) :
    GOOD C L0 o opn { av := .one (.list t ((xs.take h.toNat).drop l.toNat)) } := by
  intro L σ w ρ hi' hx hfp hlen
  have hx1 := hx x (by simp [ho, Op.operands])
  rw [hx'] at hx1
  have b1 := bnd_spec hlo (fun y hy => hx y (by simp [ho, Op.operands, hy]))
  have b2 := bnd_spec hhi (fun y hy => hx y (by simp [ho, Op.operands, hy]))
  obtain ⟨A, c, e1, k1, k2, k3⟩ := hx1.2
  simp only [List.cons.injEq, and_true] at e1
  obtain ⟨d, hd, hkd, hu⟩ := td_under ht w
  rw [hk] at hkd
  have := kd_slice hkd; subst this
  have hb := run_bounds (P := C.P) (w := w) (isSlice := true) h0 h1 h2 k1 b1 b2
  have hrun : (Instr.sliceAt T (ρ x) (lo.map ρ) (hi.map ρ) none).run C.P w = .ok (.slice (if c = l.toNat then A else A.map (·.add (l.toNat * te.size))) (h.toNat - l.toNat) (c - l.toNat)) w := by
    simp only [Instr.sliceAt, Sem.run_bind, hd, Result.andThen_ok, Instr.slice, e1, hb, run_szOf hte w, Sem.run_pure]
  simp only [ho, execOp, Option.map_none, Sem.run_bind, hrun, Result.andThen_ok, Sem.run_pure, SEMO]
  clear hrun hb b1 b2 hx hfp
  have hl : ((xs.take h.toNat).drop l.toNat).length = h.toNat - l.toNat := by simp; omega
  refine done_val hi' ⟨rfl, _, c - l.toNat, by rw [hl], by omega, ⟨by have := k2.1; simp only [maxLen] at *; omega, fun hA => ?_⟩, fun h3 => ?_⟩
  · split at hA
    · omega
    · have hA' : A = none := by cases A with
        | none => rfl
        | some _ => cases hA
      have := k2.2 hA'
      omega
  rw [hl] at h3
  have f1 : 0 < xs.length := by clear k3; omega
  have f2 : ¬ c = l.toNat := by clear k3; omega
  have f3 : ∀ i, i < h.toNat - l.toNat → l.toNat + i < xs.length := by clear k3; intro i hi; omega
  obtain ⟨b, o1, rfl, k4, k5, k6⟩ := k3 f1
  rw [if_neg f2]
  refine ⟨b, o1 + l.toNat * t.size, by simp [add_lit, hsz], k4, k5, fun i hil => ?_⟩
  rw [hl] at hil
  obtain ⟨cs', q1, q2, q3⟩ := k6 (l.toNat + i) (f3 i hil)
  refine ⟨cs', q1, fun j hj => ?_, ?_⟩
  · rw [← q2 j hj, Nat.add_mul]
    simp only [Nat.add_assoc]
  · rw [gt_drop t xs l.toNat h.toNat i hil]
    exact q3

theorem good_slice_str {T : TypeId} {td : TD} {s : List UInt8} {x : Operand} {lo hi : Option Operand} {l h : Int} (ho : o.op = .slice T x lo hi none) (ht : tdOf C.P T = some td) (hk : td.k = .str)
    (hx' : opn x = .one (.str s)) (hlo : bnd opn 0 lo = some l) (hhi : bnd opn s.length hi = some h) (h0 : 0 ≤ l) (h1 : l ≤ h) (h2 : h ≤ s.length) :
    GOOD C L0 o opn { av := .one (.str ((s.take h.toNat).drop l.toNat)) } := by
  intro L σ w ρ hi' hx hfp hlen
  have hx1 := hx x (by simp [ho, Op.operands])
  rw [hx'] at hx1
  have e1 : ρ x = .string ⟨s.toArray⟩ := hx1.2
  have b1 := bnd_spec hlo (fun y hy => hx y (by simp [ho, Op.operands, hy]))
  have b2 := bnd_spec hhi (fun y hy => hx y (by simp [ho, Op.operands, hy]))
  obtain ⟨d, hd, hkd, hu⟩ := td_under ht w
  rw [hk] at hkd
  have := kd_str hkd; subst this
  have hb := run_bounds (P := C.P) (w := w) (isSlice := false) h0 h1 h2 (Nat.le_refl _) b1 b2
  have hsz : (⟨s.toArray⟩ : ByteArray).size = s.length := rfl
  have hrun : (Instr.sliceAt T (ρ x) (lo.map ρ) (hi.map ρ) none).run C.P w = .ok (.string ((⟨s.toArray⟩ : ByteArray).extract l.toNat h.toNat)) w := by
    simp only [Instr.sliceAt, Sem.run_bind, hd, Result.andThen_ok, Instr.slice, e1, hsz, Option.isSome_none, Bool.false_eq_true, if_false, Sem.run_pure, hb]
  have hex : (⟨s.toArray⟩ : ByteArray).extract l.toNat h.toNat = ⟨((s.take h.toNat).drop l.toNat).toArray⟩ := by
    apply ByteArray.ext
    apply Array.ext'
    rw [ByteArray.data_extract]
    simp [List.drop_take]
  simp only [ho, execOp, Option.map_none, Sem.run_bind, hrun, Result.andThen_ok, Sem.run_pure, SEMO]
  exact done_val hi' ⟨rfl, by rw [hex]; rfl⟩

end
end Go.AV
