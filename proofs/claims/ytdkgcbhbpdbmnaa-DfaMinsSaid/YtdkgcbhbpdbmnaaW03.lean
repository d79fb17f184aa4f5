/- Contracts of functions of this seat, each out of a walk through its code, and plain facts on what they compute. Conditions: those that each theorem names. -/
import Derived.Test.YtdkgcbhbpdbmnaaW02
set_option linter.unusedSimpArgs false
set_option linter.unusedVariables false
namespace Go.Proofs.Ytdkgcbhbpdbmnaa
open Go Go.AV
open Nat renaming reduceEqDiff → E, reduceAdd → D, reduceLeDiff → J, reduceLT → S, reduceMul → M, reduceSub → O
open List renaming set_cons_zero → ar, set_cons_succ → aq
set_option maxRecDepth 100000 in
theorem nY (a b : Dfa) : bH Try.prog 24 [a.av, b.av] (.tup [.one (.list (.int .i64) (nJ a b)), .one (.bool (oc a b)), .one (.int .i64 (d4 a b))]) := by
 refine aR Try.func24 rfl (by kernel_rfl) (Nat.le_of_ble_eq_true rfl) rfl fun C hP hN hB => ?_
 replace hN : C.N = 39 := hN
 simp only [Y, D]
 refine Z fun K1 hK1 => ?_
 refine ae hP hN rfl ?_
 iterate 5 (refine ab rfl fun K0 V => ?_; simp only [zE, op1, ev, lkp, ai, ag, ch, am, reduceCtorEq, E, D, J, S, M, O, Try.el26, Try.st25, Try.td25, Try.td26, Try.td29, Try.td4, Dfa.av]; (repeat refine And.intro (by first | omega | assumption | exact rfl) ?_); refine V _ ?_; clear V K0; simp only [put, app, aa, af, zE, zS, D])
 refine ah ?_
 refine hK1 _ ?_; clear hK1; refine ad [0, 1, 2, 3, 4, 5, 6] ?_; simp only [U, lkp, zE, reduceCtorEq, E, Y, D]
 refine Z fun K2 hK2 => ?_
 refine Z fun K3 hK3 => ?_
 refine ae hP hN rfl ?_
 iterate 2 (refine ab rfl fun K0 V => ?_; simp only [zE, op1, ev, lkp, ai, ag, ay, Nat.mul_one, au, ax, acs, Ty.dflt, zG, ao, reduceCtorEq, E, D, J, S, M, O, Try.st25, Try.td25, Dfa.av]; (repeat refine And.intro (by first | omega | assumption | exact rfl) ?_); refine V _ ?_; clear V K0; simp only [put, app, aa, af, zE, zS, D])
 refine ab rfl fun K0 V => ?_
 refine aS (h := aG (nk a b)) rfl rfl (by first | exact rfl | (simp only [ev, U, lkp, zE, reduceCtorEq, E, Y, D]; exact rfl)) (by simp only [zE, zG, op1, ev, lkp, ai, ag, am, acs, be, mv1, mvC, Ty.dflt, reduceCtorEq, E, D, J, S, M, O, Dfa.av]) ?_
 refine V _ ?_; clear V K0; simp only [put, app, aa, af, zE, zS, D]
 (refine ab rfl fun K0 V => ?_; simp only [zE, op1, ev, lkp, ai, ag, ev, reduceCtorEq, E, D, J, S, M, O, Try.td29, Dfa.av]; refine V _ ?_; clear V K0; simp only [put, app, aa, af, zE, zS, D])
 refine ah ?_
 refine hK3 _ ?_; clear hK3; refine ad [0, 1, 2, 3, 4, 5, 6, 7] ?_; simp only [U, lkp, zE, reduceCtorEq, E, Y, D]
 refine Z fun K4 hK4 => ?_
 refine ae hP hN rfl ?_
 iterate 2 (refine ab rfl fun K0 V => ?_; simp only [zE, op1, ev, lkp, ai, ag, aC, aB, aD, ak, az, aO, reduceCtorEq, E, D, J, S, M, O, Try.td29, Try.td4, Dfa.av]; (repeat refine And.intro (by first | omega | assumption | exact rfl) ?_); refine V _ ?_; clear V K0; simp only [put, app, aa, af, zE, zS, D])
 refine ah ?_
 refine hK4 _ ?_; clear hK4; refine ad [0, 1, 2, 3, 4, 5, 6, 7, 16] ?_; simp only [U, lkp, zE, reduceCtorEq, E, Y, D]
 refine aA (by simp only [ev, U, lkp, zE, reduceCtorEq, E, Y, D]; exact rfl) (fun hc5 => ?_) (fun hc5 => ?_)
 ·(try simp only [zB, reduceCtorEq] at hc5)
  refine Z fun K6 hK6 => ?_
  refine ae hP hN rfl ?_
  iterate 4 (refine ab rfl fun K0 V => ?_; simp only [zE, op1, ev, lkp, ai, ag, ev, reduceCtorEq, E, D, J, S, M, O, Try.el26, Try.td26, Try.td29, Try.td4, Dfa.av]; refine V _ ?_; clear V K0; simp only [put, app, aa, af, zE, zS, D])
  refine ah ?_
  refine hK6 _ ?_; clear hK6; refine ad [0, 1, 2, 3, 4, 5, 6, 7, 16] ?_; simp only [U, lkp, zE, reduceCtorEq, E, Y, D]
  refine aJ ?_
  refine ⟨by first | exact .inl rfl | exact .inr rfl, _, rfl, ?_⟩; simp only [fzV, fz1, fzC, List.map_cons, List.map_nil, U, lkp, zE, reduceCtorEq, E, Y, D, Dfa.av]
  first
  | (have e1 : nJ a b = [] := if_neg (by assumption)
     have e2 : oc a b = false := if_neg (by assumption)
     rw [e1, e2]; exact bC ⟨bp (aQ rfl), fun _ _ _ _ _ h => h, fun _ _ _ _ _ h => h, trivial⟩)
  | (have e1 : nJ a b = laW (gh a b) (bv a b) := if_pos ht
     have e2 : oc a b = dB (gh a b) (bv a b) := if_pos ht
     rw [e1, e2, ht]; exact VLE.of_eq rfl)
 ·(try simp only [zB, reduceCtorEq] at hc5)
  have ht : d4 a b = 0 := by omega
  obtain ⟨ha, hb, hi⟩ := kj ht
  have a1 := ha.i1; have a2 := ha.i2; have a4 := ha.n2; have b4 := hb.n2; have hm9 := eY a4 b4
  refine aI ?_
  refine hK2 _ ?_; clear hK2; refine ad [0, 1, 2, 3, 4, 5, 6, 7, 16] ?_; simp only [U, lkp, zE, reduceCtorEq, E, Y, D]
  refine Z fun K7 hK7 => ?_
  refine cH 0 (.pair (.int .i64) (.pair (.int .i64) (.pair (.list (.list (.int .i64))) (.pair (.list .bool) .unit)))) rfl rfl ?_; simp only [List.map_cons, List.map_nil, shV, if_true, zS, if_false, eq_self, E, reduceCtorEq, Nat.one_ne_zero, Nat.zero_ne_one]
  refine cH 1 (.pair (.int .i64) (.pair (.int .i64) (.pair (.list (.list (.int .i64))) (.pair (.list .bool) .unit)))) rfl rfl ?_; simp only [List.map_cons, List.map_nil, shV, if_true, zS, if_false, eq_self, E, reduceCtorEq, Nat.one_ne_zero, Nat.zero_ne_one]
  refine ae hP hN rfl ?_
  iterate 2 (refine ab rfl fun K0 V => ?_; simp only [zE, op1, ev, lkp, ai, ag, cu, cZ, dD, reduceCtorEq, E, D, J, S, M, O, Try.td82, Dfa.av]; (repeat refine And.intro (by first | omega | assumption | exact rfl) ?_); (first | refine V _ ?_ | refine Or.inl (V _ ?_)); clear V K0; simp only [put, app, aa, af, zE, zS, D])
  refine ah ?_
  refine hK7 _ ?_; clear hK7; refine ad [0, 1, 2, 3, 4, 5, 6, 7, 8, 16] ?_; simp only [U, lkp, zE, reduceCtorEq, E, Y, D]
  refine Z fun K8 hK8 => ?_
  refine ae hP hN rfl ?_
  iterate 9 (refine ab rfl fun K0 V => ?_; simp only [zE, op1, ev, lkp, ai, ag, aw, ay, Nat.mul_one, au, ax, acs, Ty.dflt, zG, ao, bM, aW, aN, am, cu, cZ, dD, reduceCtorEq, E, D, J, S, M, O, Try.ea81, Try.sa81, Try.st25, Try.td1, Try.td25, Try.td3, Try.td81, Try.td82, Try.td87, Dfa.av]; (repeat refine And.intro (by first | omega | assumption | exact rfl) ?_); (first | refine V _ ?_ | refine Or.inl (V _ ?_)); clear V K0; simp only [put, app, aa, af, zE, zS, D])
  refine ab rfl fun K0 V => ?_
  refine aS (h := hY a.inp.toNat 62 63 [.pat (.pair (.int .i64) (.pair (.int .i64) (.pair (.list (.list (.int .i64))) (.pair (.list .bool) .unit)))) (a.inp, (a.st, (a.nx, (a.acc, ())))), .pat (.pair (.int .i64) (.pair (.int .i64) (.pair (.list (.list (.int .i64))) (.pair (.list .bool) .unit)))) (b.inp, (b.st, (b.nx, (b.acc, ()))))] [.pat (.pair (.int .i64) (.pair (.int .i64) (.pair (.list (.list (.int .i64))) (.pair (.list .bool) .unit)))) (a.inp, (a.st, (a.nx, (a.acc, ())))), .pat (.pair (.int .i64) (.pair (.int .i64) (.pair (.list (.list (.int .i64))) (.pair (.list .bool) .unit)))) (b.inp, (b.st, (b.nx, (b.acc, ()))))] (bS a b) (gh a b) (a.st, b.st) a.nx.length b.nx.length a.inp (by omega) rfl rfl hm9 (by omega) (by omega) (by omega) (eH ha hb) (dE ha hb hi (by omega)) (fun q x hq hx => tp a b q x ha hb hi hq (by omega)) (fun q hq => tb a b q ha hb hi hq) _) rfl rfl (by first | exact rfl | (simp only [ev, U, lkp, zE, reduceCtorEq, E, Y, D]; exact rfl)) (by simp only [zE, zG, op1, ev, lkp, ai, ag, am, acs, be, mv1, mvC, Ty.dflt, reduceCtorEq, E, D, J, S, M, O, Dfa.av]) ?_
  refine V _ ?_; clear V K0; simp only [put, app, aa, af, zE, zS, D]
  iterate 7 (refine ab rfl fun K0 V => ?_; simp only [zE, op1, ev, lkp, ai, ag, bJ, reduceCtorEq, E, D, J, S, M, O, Try.el83, Try.mk84, Try.td1, Try.td2, Try.td4, Try.td83, Dfa.av]; refine V _ ?_; clear V K0; simp only [put, app, aa, af, zE, zS, D])
  refine ah ?_
  refine hK8 _ ?_; clear hK8; refine ad [0, 1, 2, 3, 4, 5, 6, 7, 8, 9, 11, 16] ?_; simp only [U, lkp, zE, reduceCtorEq, E, Y, D]
  refine Z fun K9 hK9 => ?_
  refine ae hP hN rfl ?_
  iterate 2 (refine ab rfl fun K0 V => ?_; simp only [zE, op1, ev, lkp, ai, ag, ev, reduceCtorEq, E, D, J, S, M, O, Try.el83, Try.td4, Try.td83, Dfa.av]; refine V _ ?_; clear V K0; simp only [put, app, aa, af, zE, zS, D])
  refine ab rfl fun K0 V => ?_
  refine aS (h := aG (n7 (dQ (gh a b) (bv a b)) (dB (gh a b) (bv a b)) pD (Nat.le_trans (rY _ _) (kJ ha hb hi)))) rfl rfl (by first | exact rfl | (simp only [ev, U, lkp, zE, reduceCtorEq, E, Y, D]; exact rfl)) (by simp only [zE, zG, op1, ev, lkp, ai, ag, am, acs, be, mv1, mvC, Ty.dflt, reduceCtorEq, E, D, J, S, M, O, Dfa.av, bv]) ?_
  refine V _ ?_; clear V K0; simp only [put, app, aa, af, zE, zS, D]
  iterate 6 (refine ab rfl fun K0 V => ?_; simp only [zE, op1, ev, lkp, ai, ag, bJ, reduceCtorEq, E, D, J, S, M, O, Try.el26, Try.td1, Try.td2, Try.td26, Try.td29, Try.td4, Dfa.av]; refine V _ ?_; clear V K0; simp only [put, app, aa, af, zE, zS, D])
  refine ah ?_
  refine hK9 _ ?_; clear hK9; refine ad [0, 1, 2, 3, 4, 5, 6, 7, 8, 9, 11, 16] ?_; simp only [U, lkp, zE, reduceCtorEq, E, Y, D]
  refine aJ ?_
  refine ⟨by first | exact .inl rfl | exact .inr rfl, _, rfl, ?_⟩; simp only [fzV, fz1, fzC, List.map_cons, List.map_nil, U, lkp, zE, reduceCtorEq, E, Y, D, Dfa.av]
  first
  | (have e1 : nJ a b = [] := if_neg (by assumption)
     have e2 : oc a b = false := if_neg (by assumption)
     rw [e1, e2]; exact bC ⟨bp (aQ rfl), fun _ _ _ _ _ h => h, fun _ _ _ _ _ h => h, trivial⟩)
  | (have e1 : nJ a b = laW (gh a b) (bv a b) := if_pos ht
     have e2 : oc a b = dB (gh a b) (bv a b) := if_pos ht
     rw [e1, e2, ht]; exact VLE.of_eq rfl)
end Go.Proofs.Ytdkgcbhbpdbmnaa
namespace Go.AV
open Nat renaming reduceEqDiff → E, reduceAdd → D, reduceLeDiff → J, reduceLT → S, reduceMul → M, reduceSub → O
open List renaming set_cons_zero → ar, set_cons_succ → aq
/-plain-/
/-! Classes of states of an automaton. -/
def Dfa.sg (d : Dfa) (cl : List Int) (s : Nat) : List Int := cl.getD s 0 :: (d.nx.getD s []).map fun t => cl.getD t.toNat 0
def Dfa.nxL (d : Dfa) (cl : List Int) : List Int := (List.range d.nx.length).map fun s => (pos (cI (d.sg cl) d.nx.length) (d.sg cl s) : Int)
def Dfa.cl (d : Dfa) : Nat → List Int
  | 0 => (List.range d.nx.length).map (eB d)
  | i + 1 => d.nxL (d.cl i)
def Dfa.cn (d : Dfa) : Nat → Nat
  | 0 => 0
  | i + 1 => (cI (d.sg (d.cl i)) d.nx.length).length
theorem dlN (d : Dfa) (s a : Nat) : d.dl s a = (d.nx.getD s []).getD a 0 := by
  unfold Dfa.dl Dfa.row; rw [Int.toNat_natCast, Int.toNat_natCast]
theorem hQ {d : Dfa} (hd : DOK d) {cl : List Int} {s t : Nat} (hs : s < d.nx.length) (ht : t < d.nx.length) :
    d.sg cl s = d.sg cl t ↔ cl.getD s 0 = cl.getD t 0 ∧ ∀ a : Nat, (a : Int) < d.inp → cl.getD (d.dl s a).toNat 0 = cl.getD (d.dl t a).toNat 0 := by
  have l1 := hd.rl s hs
  have l2 := hd.rl t ht
  unfold Dfa.row at l1 l2
  rw [Int.toNat_natCast] at l1 l2
  unfold Dfa.sg
  rw [List.cons.injEq]
  refine and_congr_right fun _ => ⟨fun h a ha => ?_, fun h => ?_⟩
  · have h2 := congrArg (fun l => l.getD a 0) h
    have a1 : a < (d.nx.getD s []).length := by omega
    have a2 : a < (d.nx.getD t []).length := by omega
    rw [dlN, dlN]
    generalize d.nx.getD s [] = rs at *
    generalize d.nx.getD t [] = rt at *
    simp only [List.getD, List.getElem?_map, List.getElem?_eq_getElem a1, List.getElem?_eq_getElem a2, Option.map_some, Option.getD_some] at h2 ⊢
    exact h2
  · refine List.ext_getElem (by rw [List.length_map, List.length_map]; omega) fun a h1 h2 => ?_
    rw [List.length_map] at h1 h2
    have h3 := h a (by omega)
    rw [dlN, dlN] at h3
    rw [List.getElem_map, List.getElem_map]
    generalize d.nx.getD s [] = rs at *
    generalize d.nx.getD t [] = rt at *
    simp only [List.getD, List.getElem?_eq_getElem h1, List.getElem?_eq_getElem h2, Option.getD_some] at h3 ⊢
    exact h3
theorem si (d : Dfa) (cl : List Int) : (d.nxL cl).length = d.nx.length := by simp [Dfa.nxL]
theorem ny (d : Dfa) : ∀ i, (d.cl i).length = d.nx.length
  | 0 => by simp [Dfa.cl]
  | i + 1 => si _ _
theorem mS {d : Dfa} {cl : List Int} {s : Nat} (h : s < d.nx.length) : (d.nxL cl).getD s 0 = (pos (cI (d.sg cl) d.nx.length) (d.sg cl s) : Int) := by
  simp [Dfa.nxL, List.getD, h]
theorem sa {d : Dfa} {cl : List Int} {s : Nat} (h : s < d.nx.length) : 0 ≤ (d.nxL cl).getD s 0 ∧ (d.nxL cl).getD s 0 < (cI (d.sg cl) d.nx.length).length := by
  rw [mS h]
  have h1 := fc (du (f := d.sg cl) (k := d.nx.length).2 ⟨s, h, rfl⟩)
  omega
theorem jN {d : Dfa} {cl : List Int} {s t : Nat} (hs : s < d.nx.length) (ht : t < d.nx.length) : (d.nxL cl).getD s 0 = (d.nxL cl).getD t 0 ↔ d.sg cl s = d.sg cl t := by
  rw [mS hs, mS ht]
  constructor
  · intro h
    exact qQ (du.2 ⟨s, hs, rfl⟩) (du.2 ⟨t, ht, rfl⟩) (by omega)
  · intro h; rw [h]
theorem fF {d : Dfa} (hd : DOK d) (i : Nat) {s t : Nat} (hs : s < d.nx.length) (ht : t < d.nx.length) (h : (d.cl (i + 1)).getD s 0 = (d.cl (i + 1)).getD t 0) :
    (d.cl i).getD s 0 = (d.cl i).getD t 0 ∧ ∀ a : Nat, (a : Int) < d.inp → (d.cl i).getD (d.dl s a).toNat 0 = (d.cl i).getD (d.dl t a).toNat 0 :=
  (hQ hd hs ht).1 ((jN hs ht).1 h)
theorem qI {d : Dfa} (hd : DOK d) (i : Nat) {s t : Nat} (hs : s < d.nx.length) (ht : t < d.nx.length) (h : (d.cl i).getD s 0 = (d.cl i).getD t 0 ∧ ∀ a : Nat, (a : Int) < d.inp → (d.cl i).getD (d.dl s a).toNat 0 = (d.cl i).getD (d.dl t a).toNat 0) :
    (d.cl (i + 1)).getD s 0 = (d.cl (i + 1)).getD t 0 := (jN hs ht).2 ((hQ hd hs ht).2 h)
theorem iM {d : Dfa} {s t : Nat} (hs : s < d.nx.length) (ht : t < d.nx.length) : (d.cl 0).getD s 0 = (d.cl 0).getD t 0 ↔ d.ac s = d.ac t := by
  have e : ∀ q, q < d.nx.length → (d.cl 0).getD q 0 = bI1 (d.ac q) := fun q hq => by
    unfold Dfa.cl
    rw [dG _ 0 hq]
    unfold eB Dfa.ac; rw [Int.toNat_natCast]
  rw [e s hs, e t ht]
  unfold bI1
  cases d.ac s <;> cases d.ac t <;> simp
theorem nP {d : Dfa} (hd : DOK d) : ∀ (i : Nat) {s t : Nat}, s < d.nx.length → t < d.nx.length → (d.cl i).getD s 0 = (d.cl i).getD t 0 → d.ac s = d.ac t
  | 0, _, _, hs, ht, h => (iM hs ht).1 h
  | i + 1, _, _, hs, ht, h => nP hd i hs ht (fF hd i hs ht h).1
/-! How many there are. -/
def Dfa.fr (d : Dfa) (i : Nat) : List Nat := cM (fun s => (d.cl i).getD s 0) d.nx.length
theorem mL (d : Dfa) (i : Nat) : d.cn (i + 1) = (d.fr (i + 1)).length :=
  ik (d.sg (d.cl i)) (fun s => (d.cl (i + 1)).getD s 0) d.nx.length fun _ _ hs ht => jN hs ht
theorem oV (d : Dfa) : ∀ i, d.cn i ≤ d.nx.length
  | 0 => Nat.zero_le _
  | _ + 1 => iL _ _
theorem sk {d : Dfa} (hd : DOK d) : ∀ i, d.cn i ≤ d.cn (i + 1)
  | 0 => Nat.zero_le _
  | i + 1 => by
    rw [mL, mL]
    exact i8 _ _ (gW _ _) (jy fun s t hs ht h => (fF hd (i + 1) hs ht h).1)
theorem ig {d : Dfa} (hd : DOK d) : ∀ {i : Nat}, (∀ q, q < i → d.cn (q + 1) ≠ d.cn q) → i ≤ d.cn i
  | 0, _ => Nat.zero_le _
  | i + 1, h => by
    have h1 := ig hd (i := i) fun q hq => h q (by omega)
    have h2 := sk hd i
    have h3 := h i (by omega)
    omega
theorem sJ {d : Dfa} (hd : DOK d) (i : Nat) : 1 ≤ d.cn (i + 1) := by
  have h1 := hd.n1
  have := fc (du (f := d.sg (d.cl i)) (k := d.nx.length).2 ⟨0, by omega, rfl⟩)
  show 1 ≤ (cI (d.sg (d.cl i)) d.nx.length).length
  omega
/-- The round after which nothing is divided. -/
theorem oE {d : Dfa} (hd : DOK d) {j : Nat} (h : d.cn (j + 1) = d.cn j) {s t : Nat} (hs : s < d.nx.length) (ht : t < d.nx.length) (e : (d.cl j).getD s 0 = (d.cl j).getD t 0) : (d.cl (j + 1)).getD s 0 = (d.cl (j + 1)).getD t 0 := by
  cases j with
  | zero => have := sJ hd 0; rw [h] at this; exact absurd this (by simp [Dfa.cn])
  | succ j =>
    rw [mL, mL] at h
    exact nQ (f := fun s => (d.cl (j + 1)).getD s 0) (g := fun s => (d.cl (j + 1 + 1)).getD s 0) (fun s t hs ht h => (fF hd (j + 1) hs ht h).1) h s t hs ht e
def iK (n : Int) (w : List Int) : Prop := ∀ x, x ∈ w → 0 ≤ x ∧ x < n
theorem fW {n x : Int} {w : List Int} : iK n (x :: w) ↔ (0 ≤ x ∧ x < n) ∧ iK n w := by unfold iK; simp
/-- Two states accept the same words. -/
def DEQ (a b : Dfa) (s t : Int) : Prop := ∀ w : List Int, iK a.inp w → a.ac (a.run s w) = b.ac (b.run t w)
theorem DEQ.step {a b : Dfa} {s t x : Int} (h : DEQ a b s t) (hx : 0 ≤ x ∧ x < a.inp) : DEQ a b (a.dl s x) (b.dl t x) := fun w hw => h (x :: w) (fW.2 ⟨hx, hw⟩)
theorem DEQ.acc {a b : Dfa} {s t : Int} (h : DEQ a b s t) : a.ac s = b.ac t := h [] (fun x hx => by cases hx)
theorem DEQ.refl (d : Dfa) (s : Int) : DEQ d d s s := fun _ _ => rfl
theorem DEQ.symm {d : Dfa} {s t : Int} (h : DEQ d d s t) : DEQ d d t s := fun w hw => (h w hw).symm
theorem DEQ.trans {d : Dfa} {s t u : Int} (h : DEQ d d s t) (h2 : DEQ d d t u) : DEQ d d s u := fun w hw => (h w hw).trans (h2 w hw)
theorem mn {d : Dfa} (hd : DOK d) : ∀ (i : Nat) {s t : Nat}, s < d.nx.length → t < d.nx.length → DEQ d d s t → (d.cl i).getD s 0 = (d.cl i).getD t 0
  | 0, _, _, hs, ht, h => (iM hs ht).2 h.acc
  | i + 1, s, t, hs, ht, h => by
    refine qI hd i hs ht ⟨mn hd i hs ht h, fun a ha => ?_⟩
    have h1 := hd.dl (s := (s : Int)) (a := (a : Int)) ⟨by omega, by omega⟩ ⟨by omega, ha⟩
    have h2 := hd.dl (s := (t : Int)) (a := (a : Int)) ⟨by omega, by omega⟩ ⟨by omega, ha⟩
    refine mn hd i (by omega) (by omega) ?_
    rw [Int.toNat_of_nonneg h1.1, Int.toNat_of_nonneg h2.1]
    exact h.step ⟨by omega, ha⟩
theorem pL {d : Dfa} (hd : DOK d) {i : Nat} (hst : ∀ s t : Nat, s < d.nx.length → t < d.nx.length → (d.cl i).getD s 0 = (d.cl i).getD t 0 → (d.cl (i + 1)).getD s 0 = (d.cl (i + 1)).getD t 0) :
    ∀ (w : List Int) (s t : Nat), s < d.nx.length → t < d.nx.length → (d.cl i).getD s 0 = (d.cl i).getD t 0 → iK d.inp w → d.ac (d.run s w) = d.ac (d.run t w)
  | [], _, _, hs, ht, h, _ => nP hd i hs ht h
  | x :: w, s, t, hs, ht, h, hw => by
    obtain ⟨hx, hw2⟩ := fW.1 hw
    have h1 := hd.dl (s := (s : Int)) (a := x) ⟨by omega, by omega⟩ hx
    have h2 := hd.dl (s := (t : Int)) (a := x) ⟨by omega, by omega⟩ hx
    have h3 := (fF hd i hs ht (hst s t hs ht h)).2 x.toNat (by omega)
    rw [Int.toNat_of_nonneg hx.1] at h3
    have := pL hd hst w (d.dl s x).toNat (d.dl t x).toNat (by omega) (by omega) h3 hw2
    rw [Int.toNat_of_nonneg h1.1, Int.toNat_of_nonneg h2.1] at this
    exact this
/-- From the first round that divides nothing on, classes are those of equal words. -/
theorem pA {d : Dfa} (hd : DOK d) {j : Nat} (h : d.cn (j + 1) = d.cn j) : ∀ (m : Nat) {s t : Nat}, s < d.nx.length → t < d.nx.length → ((d.cl (j + m)).getD s 0 = (d.cl (j + m)).getD t 0 ↔ DEQ d d s t) := fun m s t hs ht =>
  have key : ∀ m : Nat, ∀ s t : Nat, s < d.nx.length → t < d.nx.length → (d.cl (j + m)).getD s 0 = (d.cl (j + m)).getD t 0 → (d.cl j).getD s 0 = (d.cl j).getD t 0 := fun m => by
    induction m with
    | zero => exact fun _ _ _ _ e => e
    | succ m ih => exact fun s t hs ht e => ih s t hs ht (fF hd (j + m) hs ht e).1
  ⟨fun e w hw => pL hd (fun s t hs ht e => oE hd h hs ht e) w s t hs ht (key m s t hs ht e) hw, fun e => mn hd _ hs ht e⟩
/-- The round at which the program stops. -/
theorem ni {d : Dfa} (hd : DOK d) : ∃ j, j ≤ d.nx.length ∧ d.cn (j + 1) = d.cn j ∧ ∀ q, q < j → d.cn (q + 1) ≠ d.cn q := by
  by_cases h : ∃ j, d.cn (j + 1) = d.cn j
  · obtain ⟨j0, hj0⟩ := h
    have : ∀ k, (∃ j, j ≤ k ∧ d.cn (j + 1) = d.cn j) → ∃ j, d.cn (j + 1) = d.cn j ∧ ∀ q, q < j → d.cn (q + 1) ≠ d.cn q := fun k => by
      induction k with
      | zero => rintro ⟨j, hj, e⟩; exact ⟨j, e, fun q hq => by omega⟩
      | succ k ih =>
        rintro ⟨j, hj, e⟩
        by_cases h2 : ∃ j, j ≤ k ∧ d.cn (j + 1) = d.cn j
        · exact ih h2
        · exact ⟨j, e, fun q hq e2 => h2 ⟨q, by omega, e2⟩⟩
    obtain ⟨j, e, hq⟩ := this j0 ⟨j0, Nat.le_refl _, hj0⟩
    have h1 := ig hd hq
    have h2 := oV d j
    exact ⟨j, by omega, e, hq⟩
  · have h1 := ig hd (i := d.nx.length + 1) fun q _ e => h ⟨q, e⟩
    have h2 := oV d (d.nx.length + 1)
    omega
end Go.AV
namespace Go.AV
open Nat renaming reduceEqDiff → E, reduceAdd → D, reduceLeDiff → J, reduceLT → S, reduceMul → M, reduceSub → O
open List renaming set_cons_zero → ar, set_cons_succ → aq
/-plain-/
def eu (A : STP) (n most : Nat) : Nat → Nat → List W3 → List W3
  | 0, _, l => l
  | f + 1, i, l => if i < l.length ∧ l.length ≤ most then eu A n most f (i + 1) (bK A (l.getD i w30) l n) else l
theorem dW {A : STP} {n most f i : Nat} {l : List W3} (h : ¬ (i < l.length ∧ l.length ≤ most)) : eu A n most f i l = l := by
  cases f with
  | zero => rfl
  | succ f => simp only [eu]; rw [if_neg h]
theorem ef {A : STP} {n most f i : Nat} {l : List W3} (h : i < l.length) (h2 : l.length ≤ most) : eu A n most (f + 1) i l = eu A n most f (i + 1) (bK A (l.getD i w30) l n) := by
  simp only [eu]; rw [if_pos ⟨h, h2⟩]
theorem pF {l : List W3} {i : Nat} (h : i < l.length) : (l.map Prod.fst).getD i d0 = (l.getD i w30).1 := by simp [List.getD, h]
theorem sS {l : List W3} {i : Nat} (h : i < l.length) (z : List Int) : (l.map Prod.snd).getD i z = (l.getD i w30).2 := by simp [List.getD, h]
theorem jf {l : List W3} {i : Nat} (h : i < l.length) (d : Int × (Int × Unit)) : (List.map dV (l.map Prod.fst)).getD i d = ((l.getD i w30).1.1, ((l.getD i w30).1.2, ())) := by simp [List.getD, h, dV]
end Go.AV
namespace Go.AV
open Nat renaming reduceEqDiff → E, reduceAdd → D, reduceLeDiff → J, reduceLT → S, reduceMul → M, reduceSub → O
open List renaming set_cons_zero → ar, set_cons_succ → aq
/-plain-/
/-! The search through classes. -/
def dz (xs : List PP) : List PP := xs.foldl dA []
theorem eZ (xs : List PP) (y : PP) : dz (xs ++ [y]) = dA (dz xs) y := by unfold dz; rw [List.foldl_append]; rfl
theorem qd (xs ys : List PP) : ∃ k, dz (xs ++ ys) = dz xs ++ k := by unfold dz; rw [List.foldl_append]; exact kV ys _
theorem iT {xs : List PP} {x : PP} : x ∈ dz xs ↔ x ∈ xs := by unfold dz; rw [jY]; simp
def hF (h : PP → PP) (l : List W3) : List PP := l.map fun e => h e.1
theorem lh (h : PP → PP) {l : List W3} {i : Nat} (hi : i < l.length) : hF h (l.take (i + 1)) = hF h (l.take i) ++ [h (l.getD i w30).1] := by
  unfold hF; exact dk _ w30 hi
theorem oe (h : PP → PP) (l : List W3) (e : W3) : hF h (l ++ [e]) = hF h l ++ [h e.1] := by unfold hF; rw [List.map_append]; rfl
structure HOM (A B : STP) (n : Nat) (I : PP → Prop) (h : PP → PP) : Prop where
  cl : ∀ p, I p → ∀ x, x < n → I (A p x)
  eq : ∀ p, I p → ∀ x, x < n → B (h p) x = h (A p x)
theorem nv {A B : STP} {n : Nat} {I : PP → Prop} {h : PP → PP} (hh : HOM A B n I h) {l r : List W3} (hr : r.map Prod.fst = dz (hF h l)) {e f : W3} (he : I e.1) (hf : f.1 = h e.1) :
    ∀ x, x ≤ n → (bK B f r x).map Prod.fst = dz (hF h (bK A e l x))
  | 0, _ => hr
  | x + 1, hx => by
    have ih := nv hh hr he hf x (by omega)
    rw [ca, ca]
    have hB : B f.1 x = h (A e.1 x) := by rw [hf]; exact hh.eq _ he x (by omega)
    by_cases hm : A e.1 x ∈ (bK A e l x).map Prod.fst
    · have hm2 : B f.1 x ∈ (bK B f r x).map Prod.fst := by
        rw [ih, iT, hB]
        obtain ⟨g, hg, e1⟩ := List.mem_map.1 hm
        exact List.mem_map.2 ⟨g, hg, by rw [e1]⟩
      rw [dH hm, dH hm2]; exact ih
    · rw [di hm, oe, eZ]
      by_cases hm2 : B f.1 x ∈ (bK B f r x).map Prod.fst
      · rw [dH hm2, ih, dn]
        rw [← ih, ← hB]; exact hm2
      · rw [di hm2, List.map_append, ih, de (by rw [← ih, ← hB]; exact hm2), ← hB]; rfl
theorem lG {A B : STP} {n : Nat} {I : PP → Prop} {h : PP → PP} (hh : HOM A B n I h) {l : List W3} {e g : W3} (he : I e.1) (hg : I g.1) (hc : ∀ x, x < n → A g.1 x ∈ l.map Prod.fst) (hq : h e.1 = h g.1) :
    ∀ x, x ≤ n → dz (hF h (bK A e l x)) = dz (hF h l)
  | 0, _ => rfl
  | x + 1, hx => by
    have ih := lG hh he hg hc hq x (by omega)
    rw [ca]
    by_cases hm : A e.1 x ∈ (bK A e l x).map Prod.fst
    · rw [dH hm]; exact ih
    · rw [di hm, oe, eZ, dn, ih]
      rw [ih, iT]
      have h1 : h (A e.1 x) = h (A g.1 x) := by rw [← hh.eq _ he x (by omega), ← hh.eq _ hg x (by omega), hq]
      show h (A e.1 x) ∈ _
      rw [h1]
      obtain ⟨k, hk, e1⟩ := List.mem_map.1 (hc x (by omega))
      exact List.mem_map.2 ⟨k, hk, by rw [e1]⟩
theorem mM {α : Type} {l k : List α} {i : Nat} (h : i ≤ l.length) : (l ++ k).take i = l.take i := List.take_append_of_le_length h
theorem kq {A B : STP} {n n1 n2 : Nat} {I : PP → Prop} {h : PP → PP} (hh : HOM A B n I h) (hB : ∀ q, inR n1 n2 q → ∀ x, x < n → inR n1 n2 (B q x)) :
    ∀ (f g i j : Nat) (l r : List W3), i ≤ l.length → (∀ e, e ∈ l → I e.1) → (∀ q, q < i → ∀ x, x < n → A (l.getD q w30).1 x ∈ l.map Prod.fst) → DW n1 n2 r → r.map Prod.fst = dz (hF h l) → j = (dz (hF h (l.take i))).length → n1 * n2 ≤ g + j →
      (dg A n f i l).length ≤ f + i → (dg B n g j r).map Prod.fst = dz (hF h (dg A n f i l))
  | 0, g, i, j, l, r, hil, hI, hc, hd, hr, hj, hg, hf => by
    have h0 : l.length ≤ 0 + i := hf
    have hli : l.take i = l := List.take_of_length_le (by omega)
    rw [hli, ← hr, List.length_map] at hj
    rw [d5 B n g j (by omega)]; exact hr
  | f + 1, g, i, j, l, r, hil, hI, hc, hd, hr, hj, hg, hf => by
    by_cases hi : i < l.length
    · have hw := cO hi
      have hIe := hI _ hw
      rw [cW _ _ _ hi] at hf ⊢
      have hge := gv A (l.getD i w30) l n
      have htk : (bK A (l.getD i w30) l n).take (i + 1) = l.take (i + 1) := by
        obtain ⟨k, hk⟩ := dc A (l.getD i w30) l n
        rw [hk]; exact mM (by omega)
      have hI2 : ∀ e, e ∈ bK A (l.getD i w30) l n → I e.1 := by
        have : ∀ x, x ≤ n → ∀ e, e ∈ bK A (l.getD i w30) l x → I e.1 := fun x => by
          induction x with
          | zero => exact fun _ e he => hI e he
          | succ x ih =>
            intro hx e he
            rw [ca] at he
            unfold dSt at he
            split at he
            · exact ih (by omega) e he
            · rcases List.mem_append.1 he with he | he
              · exact ih (by omega) e he
              · simp at he; subst he; exact hh.cl _ hIe x (by omega)
        exact this n (Nat.le_refl _)
      have hc2 : ∀ q, q < i + 1 → ∀ x, x < n → A ((bK A (l.getD i w30) l n).getD q w30).1 x ∈ (bK A (l.getD i w30) l n).map Prod.fst := fun q hq x hx => by
        rw [fy A _ n (show q < l.length by omega)]
        by_cases e : q = i
        · rw [e]; exact mZ A _ l hx
        · obtain ⟨k, hk⟩ := dc A (l.getD i w30) l n
          rw [hk, List.map_append]
          exact List.mem_append.2 (.inl (hc q (by omega) x hx))
      by_cases hin : h (l.getD i w30).1 ∈ dz (hF h (l.take i))
      · have hmem := iT.1 hin
        obtain ⟨e, he, e1⟩ := List.mem_map.1 hmem
        obtain ⟨q, hq⟩ := List.getElem?_of_mem he
        have hlt := (List.getElem?_eq_some_iff.1 hq).1
        rw [List.length_take] at hlt
        rw [List.getElem?_take_of_lt (by omega)] at hq
        have hqe : l.getD q w30 = e := by rw [List.getD, hq]; rfl
        have hidle := lG hh hIe (hI _ (cO (show q < l.length by omega))) (hc q (by omega)) (by rw [hqe]; exact e1.symm) n (Nat.le_refl _)
        refine kq hh hB f g (i + 1) j _ r (by omega) hI2 hc2 hd (by rw [hidle]; exact hr) ?_ hg (by omega)
        rw [htk, lh h hi, eZ, dn hin]; exact hj
      · have hsp : ∃ k, dz (hF h l) = dz (hF h (l.take i)) ++ [h (l.getD i w30).1] ++ k := by
          have e1 : hF h l = hF h (l.take (i + 1)) ++ hF h (l.drop (i + 1)) := by unfold hF; rw [← List.map_append, List.take_append_drop]
          obtain ⟨k, hk⟩ := qd (hF h (l.take (i + 1))) (hF h (l.drop (i + 1)))
          refine ⟨k, ?_⟩
          rw [e1, hk, lh h hi, eZ, de hin]
        obtain ⟨k, hk⟩ := hsp
        have hlen : j < r.length := by
          have := congrArg List.length hr
          rw [List.length_map, hk] at this
          simp at this; omega
        have hat : (r.getD j w30).1 = h (l.getD i w30).1 := by
          have : (r.map Prod.fst).getD j d0 = (dz (hF h l)).getD j d0 := by rw [hr]
          rw [pF hlen, hk, hj] at this
          rw [hj, this]
          simp [List.getD]
        have hrow := nv hh hr hIe hat n (Nat.le_refl _)
        have hdl := hd.le
        cases g with
        | zero => exact absurd hg (by omega)
        | succ g =>
          rw [cW _ _ _ hlen]
          refine kq hh hB f g (i + 1) (j + 1) _ _ (by omega) hI2 hc2 (hd.row hB hlen n (Nat.le_refl _)) hrow ?_ (by omega) (by omega)
          rw [htk, lh h hi, eZ, de hin, List.length_append, List.length_singleton]; omega
    · have hli : l.take i = l := List.take_of_length_le (by omega)
      rw [hli, ← hr, List.length_map] at hj
      rw [d5 A n _ i (by omega), d5 B n g j (by omega)]; exact hr
theorem nF {A : STP} {n n1 n2 : Nat} (hA : ∀ q, inR n1 n2 q → ∀ x, x < n → inR n1 n2 (A q x)) {p : PP} (h0 : inR n1 n2 p) : (bT A n (n1 * n2) p).length ≤ n1 * n2 := (cQ hA h0).1.le
theorem rn {A B : STP} {n n1 n2 m1 m2 : Nat} {I : PP → Prop} {h : PP → PP} (hh : HOM A B n I h) (hA : ∀ q, inR m1 m2 q → ∀ x, x < n → inR m1 m2 (A q x)) (hB : ∀ q, inR n1 n2 q → ∀ x, x < n → inR n1 n2 (B q x)) {p : PP} (hp : I p) (hpA : inR m1 m2 p) (hpB : inR n1 n2 (h p)) :
    (bT B n (n1 * n2) (h p)).map Prod.fst = dz (hF h (bT A n (m1 * m2) p)) := by
  refine kq hh hB (m1 * m2 + 1) (n1 * n2 + 1) 0 0 [(p, [])] [(h p, [])] (by simp) (fun e he => by simp at he; subst he; exact hp) (fun q hq => by omega) (gB hpB) ?_ rfl (by omega) ?_
  · simp [hF, dz, dA]
  · have := nF hA hpA
    unfold bT at this
    omega
end Go.AV
namespace Go.AV
open Nat renaming reduceEqDiff → E, reduceAdd → D, reduceLeDiff → J, reduceLT → S, reduceMul → M, reduceSub → O
open List renaming set_cons_zero → ar, set_cons_succ → aq
/-plain-/
/-! Two searches side by side. -/
structure SIM (A B : STP) (n : Nat) (R : PP → PP → Prop) : Prop where
  st : ∀ p q, R p q → ∀ x, x < n → R (A p x) (B q x)
  bi : ∀ p q p' q', R p q → R p' q' → (p = p' ↔ q = q')
def RL (R : PP → PP → Prop) (l l' : List W3) : Prop := l.length = l'.length ∧ ∀ i, i < l.length → R (l.getD i w30).1 (l'.getD i w30).1 ∧ (l.getD i w30).2 = (l'.getD i w30).2
theorem RL.mem {A B : STP} {n : Nat} {R : PP → PP → Prop} (hs : SIM A B n R) {l l' : List W3} (h : RL R l l') {p q : PP} (hr : R p q) : p ∈ l.map Prod.fst ↔ q ∈ l'.map Prod.fst := by
  constructor
  · intro hm
    obtain ⟨e, he, e1⟩ := List.mem_map.1 hm
    obtain ⟨i, hi⟩ := List.getElem?_of_mem he
    have hlt := (List.getElem?_eq_some_iff.1 hi).1
    have h2 := h.2 i hlt
    have h3 : l.getD i w30 = e := by rw [List.getD, hi]; rfl
    rw [h3, e1] at h2
    have := (hs.bi _ _ _ _ h2.1 hr).1 rfl
    rw [← this]
    exact List.mem_map.2 ⟨_, cO (by rw [← h.1]; exact hlt), rfl⟩
  · intro hm
    obtain ⟨e, he, e1⟩ := List.mem_map.1 hm
    obtain ⟨i, hi⟩ := List.getElem?_of_mem he
    have hlt := (List.getElem?_eq_some_iff.1 hi).1
    have h2 := h.2 i (by rw [h.1]; exact hlt)
    have h3 : l'.getD i w30 = e := by rw [List.getD, hi]; rfl
    rw [h3, e1] at h2
    have := (hs.bi _ _ _ _ h2.1 hr).2 rfl
    rw [← this]
    exact List.mem_map.2 ⟨_, cO (by rw [h.1]; exact hlt), rfl⟩
theorem RL.snoc {R : PP → PP → Prop} {l l' : List W3} (h : RL R l l') {e f : W3} (hr : R e.1 f.1) (hw : e.2 = f.2) : RL R (l ++ [e]) (l' ++ [f]) := by
  refine ⟨by simp [h.1], fun i hi => ?_⟩
  rw [List.length_append, List.length_singleton] at hi
  by_cases e1 : i < l.length
  · rw [cT e1, cT (by rw [← h.1]; exact e1)]; exact h.2 i e1
  · rw [eg (by omega), eg (by have := h.1; omega)]; exact ⟨hr, hw⟩
theorem RL.row {A B : STP} {n : Nat} {R : PP → PP → Prop} (hs : SIM A B n R) {l l' : List W3} (h : RL R l l') {e f : W3} (hr : R e.1 f.1) (hw : e.2 = f.2) : ∀ x, x ≤ n → RL R (bK A e l x) (bK B f l' x)
  | 0, _ => h
  | x + 1, hx => by
    have ih := h.row hs hr hw x (by omega)
    have h2 := hs.st _ _ hr x (by omega)
    rw [ca, ca]
    by_cases hm : A e.1 x ∈ (bK A e l x).map Prod.fst
    · rw [dH hm, dH ((ih.mem hs h2).1 hm)]; exact ih
    · rw [di hm, di (fun k => hm ((ih.mem hs h2).2 k))]
      exact ih.snoc h2 (by rw [hw])
theorem RL.prun {A B : STP} {n most : Nat} {R : PP → PP → Prop} (hs : SIM A B n R) : ∀ (f i : Nat) (l l' : List W3), RL R l l' → RL R (eu A n most f i l) (eu B n most f i l')
  | 0, _, _, _, h => h
  | f + 1, i, l, l', h => by
    by_cases hi : i < l.length ∧ l.length ≤ most
    · have hi2 : i < l'.length ∧ l'.length ≤ most := by rw [← h.1]; exact hi
      rw [ef hi.1 hi.2, ef hi2.1 hi2.2]
      have h2 := h.2 i hi.1
      exact RL.prun hs f (i + 1) _ _ (h.row hs h2.1 h2.2 n (Nat.le_refl _))
    · rw [dW hi, dW (by rw [← h.1]; exact hi)]; exact h
theorem RL.one {R : PP → PP → Prop} {p q : PP} (h : R p q) : RL R [(p, [])] [(q, [])] := ⟨rfl, fun i hi => by
  have : i = 0 := by simpa using hi
  subst this; exact ⟨h, rfl⟩⟩
/-- More steps than there are pairs change nothing. -/
theorem kw {A : STP} {n n1 n2 : Nat} (hA : ∀ q, inR n1 n2 q → ∀ x, x < n → inR n1 n2 (A q x)) : ∀ (f g i : Nat) (l : List W3), DW n1 n2 l → n1 * n2 ≤ f + i → n1 * n2 ≤ g + i → dg A n f i l = dg A n g i l
  | 0, g, i, l, hd, h1, _ => by have := hd.le; rw [d5 A n g i (by omega)]; rfl
  | f + 1, 0, i, l, hd, _, h2 => by have := hd.le; rw [d5 A n (f + 1) i (by omega)]; rfl
  | f + 1, g + 1, i, l, hd, h1, h2 => by
    by_cases hi : i < l.length
    · rw [cW _ _ _ hi, cW _ _ _ hi]
      exact kw hA f g (i + 1) _ (hd.row hA hi n (Nat.le_refl _)) (by omega) (by omega)
    · rw [d5 _ _ _ _ (by omega), d5 _ _ _ _ (by omega)]
theorem rk (A : STP) (n f i : Nat) (l : List W3) : l.length ≤ (dg A n f i l).length := by
  obtain ⟨k, h⟩ := fC A n f i l
  rw [h, List.length_append]; omega
theorem fh {A : STP} {n most : Nat} : ∀ (f i : Nat) (l : List W3), (dg A n f i l).length ≤ most → eu A n most f i l = dg A n f i l
  | 0, _, _, _ => rfl
  | f + 1, i, l, h => by
    have h1 := Nat.le_trans (rk A n (f + 1) i l) h
    by_cases hi : i < l.length
    · rw [cW _ _ _ hi] at h
      rw [ef hi (by omega), cW _ _ _ hi]
      exact fh f (i + 1) _ h
    · rw [dW (by omega), d5 _ _ _ _ (by omega)]
theorem ma {A : STP} {n most : Nat} : ∀ (f i : Nat) (l : List W3), most < (dg A n f i l).length → most < (eu A n most f i l).length
  | 0, _, _, h => h
  | f + 1, i, l, h => by
    by_cases hi : i < l.length
    · by_cases hm : l.length ≤ most
      · rw [cW _ _ _ hi] at h
        rw [ef hi hm]
        exact ma f (i + 1) _ h
      · rw [dW (by omega)]; omega
    · rw [d5 _ _ _ _ (by omega)] at h
      rw [dW (by omega)]; exact h
end Go.AV
namespace Go.AV
open Nat renaming reduceEqDiff → E, reduceAdd → D, reduceLeDiff → J, reduceLT → S, reduceMul → M, reduceSub → O
open List renaming set_cons_zero → ar, set_cons_succ → aq
/-plain-/
theorem kn {A : STP} {n n1 n2 most : Nat} (hA : ∀ q, inR n1 n2 q → ∀ x, x < n → inR n1 n2 (A q x)) (hb : n1 * n2 ≤ most) : ∀ (f i : Nat) (l : List W3), DW n1 n2 l → eu A n most f i l = dg A n f i l
  | 0, _, _, _ => rfl
  | f + 1, i, l, hd => by
    have h1 := hd.le
    by_cases hi : i < l.length
    · rw [ef hi (by omega), cW _ _ _ hi]
      exact kn hA hb f (i + 1) _ (hd.row hA hi n (Nat.le_refl _))
    · rw [dW (by omega), d5 _ _ _ _ (by omega)]
end Go.AV
namespace Go.AV
open Nat renaming reduceEqDiff → E, reduceAdd → D, reduceLeDiff → J, reduceLT → S, reduceMul → M, reduceSub → O
open List renaming set_cons_zero → ar, set_cons_succ → aq
/-plain-/
/-! Words in the order of their lengths and symbols. -/
def SLT (u v : List Int) : Prop := u.length < v.length ∨ (u.length = v.length ∧ ∃ m, m < u.length ∧ (∀ q, q < m → u.getD q 0 = v.getD q 0) ∧ u.getD m 0 < v.getD m 0)
def SLE (u v : List Int) : Prop := u = v ∨ SLT u v
theorem SLT.trans {u v w : List Int} (h : SLT u v) (h2 : SLT v w) : SLT u w := by
  rcases h with h | ⟨h, m, a1, a2, a3⟩
  · rcases h2 with h2 | ⟨h2, _⟩
    · exact .inl (by omega)
    · exact .inl (by omega)
  · rcases h2 with h2 | ⟨h2, k, b1, b2, b3⟩
    · exact .inl (by omega)
    · refine .inr ⟨by omega, ?_⟩
      rcases Nat.lt_trichotomy m k with e | e | e
      · exact ⟨m, a1, fun q hq => (a2 q hq).trans (b2 q (by omega)), by rw [← b2 m e]; exact a3⟩
      · subst e; exact ⟨m, a1, fun q hq => (a2 q hq).trans (b2 q hq), by omega⟩
      · exact ⟨k, by omega, fun q hq => (a2 q (by omega)).trans (b2 q hq), by rw [a2 k e]; exact b3⟩
theorem SLE.trans_lt {u v w : List Int} (h : SLE u v) (h2 : SLT v w) : SLT u w := by
  rcases h with rfl | h
  · exact h2
  · exact h.trans h2
theorem SLE.trans {u v w : List Int} (h : SLE u v) (h2 : SLE v w) : SLE u w := by
  rcases h2 with rfl | h2
  · exact h
  · exact .inr (h.trans_lt h2)
theorem SLT.app {u v : List Int} (h : SLT u v) (a b : Int) : SLT (u ++ [a]) (v ++ [b]) := by
  rcases h with h | ⟨h, m, a1, a2, a3⟩
  · exact .inl (by simp; omega)
  · refine .inr ⟨by simp; omega, m, by simp; omega, fun q hq => ?_, ?_⟩
    · rw [cT (by omega), cT (by omega)]; exact a2 q hq
    · rw [cT a1, cT (by omega)]; exact a3
theorem SLE.app {u v : List Int} (h : SLE u v) (a : Int) : SLE (u ++ [a]) (v ++ [a]) := by
  rcases h with rfl | h
  · exact .inl rfl
  · exact .inr (h.app a a)
structure BW (A : STP) (n i : Nat) (l : List W3) : Prop where
  so : ∀ j k, j < k → k < l.length → SLT (l.getD j w30).2 (l.getD k w30).2
  mi : ∀ j, j < i → j < l.length → ∀ x, x < n → ∃ k, k < l.length ∧ (l.getD k w30).1 = A (l.getD j w30).1 x ∧ SLE (l.getD k w30).2 ((l.getD j w30).2 ++ [(x : Int)])
  up : i < l.length → ∀ k, k < l.length → SLT (l.getD k w30).2 ((l.getD i w30).2 ++ [0])
theorem ng {l : List W3} {q : PP} (h : q ∈ l.map Prod.fst) : ∃ k, k < l.length ∧ (l.getD k w30).1 = q := by
  obtain ⟨e, he, e1⟩ := List.mem_map.1 h
  obtain ⟨k, hk⟩ := List.getElem?_of_mem he
  exact ⟨k, (List.getElem?_eq_some_iff.1 hk).1, by rw [List.getD, hk]; exact e1⟩
structure BX (A : STP) (n i x : Nat) (l0 l : List W3) : Prop where
  so : ∀ j k, j < k → k < l.length → SLT (l.getD j w30).2 (l.getD k w30).2
  mi : ∀ y, y < x → ∃ k, k < l.length ∧ (l.getD k w30).1 = A (l0.getD i w30).1 y ∧ SLE (l.getD k w30).2 ((l0.getD i w30).2 ++ [(y : Int)])
  up : ∀ k, k < l.length → SLT (l.getD k w30).2 ((l0.getD i w30).2 ++ [(x : Int)])
def lg (A : STP) (q : PP) (w : List Int) : PP := w.foldl (fun q x => A q x.toNat) q
theorem sH (A : STP) (n N : Nat) (p : PP) : ∃ k, bT A n N p = [(p, [])] ++ k := fC A n (N + 1) 0 [(p, [])]
end Go.AV
namespace Go.AV
open Nat renaming reduceEqDiff → E, reduceAdd → D, reduceLeDiff → J, reduceLT → S, reduceMul → M, reduceSub → O
open List renaming set_cons_zero → ar, set_cons_succ → aq
/-plain-/
/-! The automaton that is built from a search. -/
structure LCL (A : STP) (n : Nat) (L : List W3) : Prop where
  nd : (L.map Prod.fst).Nodup
  cl : ∀ j, j < L.length → ∀ x, x < n → A (L.getD j w30).1 x ∈ L.map Prod.fst
theorem LCL.cl' {A : STP} {n : Nat} {L : List W3} (h : LCL A n L) {q : PP} (hq : q ∈ L.map Prod.fst) {x : Nat} (hx : x < n) : A q x ∈ L.map Prod.fst := by
  obtain ⟨k, hk, e⟩ := ng hq
  rw [← e]; exact h.cl k hk x hx
theorem kM {n1 n2 n : Nat} {A : STP} (hA : ∀ q, inR n1 n2 q → ∀ x, x < n → inR n1 n2 (A q x)) {p : PP} (h0 : inR n1 n2 p) : LCL A n (bT A n (n1 * n2) p) := by
  obtain ⟨h1, h2⟩ := cQ hA h0
  exact ⟨h1.nd, h2⟩
theorem fu {L : List W3} {q : PP} (h : q ∈ L.map Prod.fst) : pos (L.map Prod.fst) q < L.length := by
  have := fc h; rw [List.length_map] at this; exact this
theorem ke {L : List W3} {q : PP} (h : q ∈ L.map Prod.fst) : (L.getD (pos (L.map Prod.fst) q) w30).1 = q := by
  have h2 := er h
  have h1 := fu h
  rw [List.getElem?_map] at h2
  obtain ⟨z, hz, e⟩ := Option.map_eq_some_iff.1 h2
  rw [List.getD, hz]; exact e
theorem lv {L : List W3} (hn : (L.map Prod.fst).Nodup) {k : Nat} (hk : k < L.length) : pos (L.map Prod.fst) (L.getD k w30).1 = k := by
  have hm : (L.getD k w30).1 ∈ L.map Prod.fst := List.mem_map.2 ⟨_, cO hk, rfl⟩
  have h1 := fu hm
  have h2 := er hm
  have h3 : (L.map Prod.fst)[k]? = some (L.getD k w30).1 := by rw [List.getElem?_map]; simp [List.getD, hk]
  exact (List.getElem?_inj (by rw [List.length_map]; exact h1) hn).1 (h2.trans h3.symm)
variable {A : STP} {G : PP → Bool} {n : Nat} {L : List W3}
theorem kC {k : Nat} (hk : k < L.length) : (dBn A G n L).nx.getD k [] = dRw A n L k n := by
  show ((List.range L.length).map fun i => dRw A n L i n).getD k [] = _
  exact dG _ [] hk
theorem nH : (dBn A G n L).nx.length = L.length ∧ (dBn A G n L).acc.length = L.length := by simp [dBn]
theorem mG {k x : Nat} (hx : x < n) : (dRw A n L k n).getD x 0 = (pos (L.map Prod.fst) (A (L.getD k w30).1 x) : Int) := by
  unfold dRw; exact dG _ 0 hx
theorem sV {q : PP} (hq : q ∈ L.map Prod.fst) {x : Int} (hx : 0 ≤ x ∧ x < n) : (dBn A G n L).dl (pos (L.map Prod.fst) q : Int) x = (pos (L.map Prod.fst) (A q x.toNat) : Int) := by
  have e : x = ((x.toNat : Nat) : Int) := (Int.toNat_of_nonneg hx.1).symm
  rw [e, dlN, kC (fu hq), mG (by omega), ke hq, ← e]
theorem pE {q : PP} (hq : q ∈ L.map Prod.fst) : (dBn A G n L).ac (pos (L.map Prod.fst) q : Int) = G q := by
  have h1 := fu hq
  have h2 := ke hq
  show (L.map fun e => G e.1).getD ((pos (L.map Prod.fst) q : Int)).toNat false = _
  rw [Int.toNat_natCast]
  have e : (L.map fun e => G e.1).getD (pos (L.map Prod.fst) q) false = G (L.getD (pos (L.map Prod.fst) q) w30).1 := by simp [List.getD, h1]
  rw [e, h2]
theorem ne (hL : LCL A n L) : ∀ (w : List Int) (q : PP), q ∈ L.map Prod.fst → iK n w → (dBn A G n L).run (pos (L.map Prod.fst) q : Int) w = (pos (L.map Prod.fst) (lg A q w) : Int) ∧ lg A q w ∈ L.map Prod.fst
  | [], q, hq, _ => ⟨rfl, hq⟩
  | x :: w, q, hq, hw => by
    obtain ⟨hx, hw2⟩ := fW.1 hw
    have h2 := hL.cl' hq (x := x.toNat) (by omega)
    have := ne hL w (A q x.toNat) h2 hw2
    show (dBn A G n L).run ((dBn A G n L).dl (pos (L.map Prod.fst) q : Int) x) w = (pos (L.map Prod.fst) (lg A (A q x.toNat) w) : Int) ∧ lg A (A q x.toNat) w ∈ _
    rw [sV hq hx]; exact this
theorem pS (hL : LCL A n L) {q : PP} (hq : q ∈ L.map Prod.fst) {w : List Int} (hw : iK n w) : (dBn A G n L).ac ((dBn A G n L).run (pos (L.map Prod.fst) q : Int) w) = G (lg A q w) := by
  obtain ⟨h1, h2⟩ := ne (G := G) hL w q hq hw
  rw [h1, pE h2]
theorem pI (hL : LCL A n L) (h1 : 1 ≤ n) (h2 : n ≤ 1024) (h3 : 0 < L.length) (h4 : L.length ≤ 128) : DOK (dBn A G n L) := by
  obtain ⟨l1, l2⟩ := nH (A := A) (G := G) (n := n) (L := L)
  have hr : ∀ s : Nat, s < L.length → (dBn A G n L).row s = dRw A n L s n := fun s hs => by
    unfold Dfa.row; rw [Int.toNat_natCast]; exact kC hs
  exact ⟨by show (1 : Int) ≤ (n : Int); omega, by show (n : Int) ≤ 1024; omega, by omega, by omega, Int.le_refl _, by show (0 : Int) < _; omega, by omega,
    fun s hs => by rw [hr s (by omega), bZ]; rfl,
    fun s a hs ha => by
      have ha2 : a < n := by have : (a : Int) < (n : Int) := ha; omega
      rw [hr s (by omega), mG ha2]
      have := fu (hL.cl s (by omega) a ha2)
      omega⟩
theorem lE (A : STP) (n N : Nat) (p : PP) : 0 < (bT A n N p).length := by
  obtain ⟨k, hk⟩ := sH A n N p
  rw [hk]; simp
theorem ph (a b : Dfa) : ∀ (w : List Int) (s t : Int), iK a.inp w → lg (bS a b) (s, t) w = (a.run s w, b.run t w)
  | [], _, _, _ => rfl
  | x :: w, s, t, hw => by
    obtain ⟨hx, hw2⟩ := fW.1 hw
    have e : ((x.toNat : Nat) : Int) = x := Int.toNat_of_nonneg hx.1
    show lg (bS a b) (a.dl s (x.toNat : Nat), b.dl t (x.toNat : Nat)) w = _
    rw [e]; exact ph a b w _ _ hw2
end Go.AV
namespace Go.AV
open Nat renaming reduceEqDiff → E, reduceAdd → D, reduceLeDiff → J, reduceLT → S, reduceMul → M, reduceSub → O
open List renaming set_cons_zero → ar, set_cons_succ → aq
/-plain-/
/-! The least state of a class. -/
def Dfa.sto (d : Dfa) : Nat → Nat → Nat
  | 0, i => i
  | f + 1, i => if d.cn (i + 1) = d.cn i then i else d.sto f (i + 1)
theorem pH (d : Dfa) : ∀ (f i j : Nat), i ≤ j → j < i + f → d.cn (j + 1) = d.cn j → (∀ q, i ≤ q → q < j → d.cn (q + 1) ≠ d.cn q) → d.sto f i = j
  | 0, i, j, h1, h2, _, _ => by omega
  | f + 1, i, j, h1, h2, h3, h4 => by
    simp only [Dfa.sto]
    by_cases e : i = j
    · subst e; rw [if_pos h3]
    · rw [if_neg (h4 i (Nat.le_refl _) (by omega))]
      exact pH d f (i + 1) j (by omega) (by omega) h3 fun q hq => h4 q (by omega)
def Dfa.cls (d : Dfa) : List Int := d.cl (d.sto (d.nx.length + 1) 0 + 1)
theorem pq {d : Dfa} {j : Nat} (hj : j ≤ d.nx.length) (h : d.cn (j + 1) = d.cn j) (hq : ∀ q, q < j → d.cn (q + 1) ≠ d.cn q) : d.cls = d.cl (j + 1) := by
  unfold Dfa.cls
  rw [pH d (d.nx.length + 1) 0 j (by omega) (by omega) h fun q _ => hq q]
theorem lz {d : Dfa} (hd : DOK d) {s t : Nat} (hs : s < d.nx.length) (ht : t < d.nx.length) : d.cls.getD s 0 = d.cls.getD t 0 ↔ DEQ d d s t := by
  obtain ⟨j, hj, h, hq⟩ := ni hd
  rw [pq hj h hq]
  exact pA hd h 1 hs ht
theorem lK (d : Dfa) : d.cls.length = d.nx.length := ny d _
theorem gQ {d : Dfa} {s : Nat} (hs : s < d.nx.length) : 0 ≤ d.cls.getD s 0 ∧ d.cls.getD s 0 < d.nx.length := by
  unfold Dfa.cls
  have h1 := sa (d := d) (cl := d.cl (d.sto (d.nx.length + 1) 0)) hs
  have h2 := iL (d.sg (d.cl (d.sto (d.nx.length + 1) 0))) d.nx.length
  show 0 ≤ (d.nxL _).getD s 0 ∧ (d.nxL _).getD s 0 < _
  omega
/-- The least state from s on of each class. -/
def fsV (cl : List Int) (n s c : Nat) : Int := match (List.range n).find? (fun q => decide (s ≤ q) && decide (cl.getD q 0 = (c : Int))) with | some q => (q : Int) | none => 0
def fsL (cl : List Int) (n s : Nat) : List Int := (List.range n).map fun c => fsV cl n s c
theorem ku (cl : List Int) (n s : Nat) : (fsL cl n s).length = n := by simp [fsL]
theorem rL (cl : List Int) (n : Nat) : fsL cl n n = List.replicate n 0 := by
  refine List.ext_getElem (by simp [fsL]) fun i h1 h2 => ?_
  simp only [fsL, List.getElem_map, List.getElem_range, List.getElem_replicate]
  unfold fsV
  rw [kX fun x hx => by simp only [Bool.and_eq_false_iff, decide_eq_false_iff_not]; exact .inl (by omega)]
theorem sr {cl : List Int} {n s : Nat} (hs : s < n) (hc : 0 ≤ cl.getD s 0 ∧ cl.getD s 0 < n) : (fsL cl n (s + 1)).set (cl.getD s 0).toNat (s : Int) = fsL cl n s := by
  refine List.ext_getElem (by simp [fsL]) fun i h1 h2 => ?_
  have hi : i < n := by simpa [fsL] using h2
  simp only [fsL, List.getElem_set, List.getElem_map, List.getElem_range]
  by_cases e : (cl.getD s 0).toNat = i
  · rw [if_pos e]
    unfold fsV
    rw [kB hs (by simp only [Bool.and_eq_true, decide_eq_true_eq]; exact ⟨Nat.le_refl _, by omega⟩) fun y hy => by simp only [Bool.and_eq_false_iff, decide_eq_false_iff_not]; exact .inl (by omega)]
  · rw [if_neg e]
    unfold fsV
    have : (fun q => decide (s + 1 ≤ q) && decide (cl.getD q 0 = (i : Int))) = (fun q => decide (s ≤ q) && decide (cl.getD q 0 = (i : Int))) := by
      funext q
      by_cases e2 : q = s
      · subst e2
        have : ¬ cl.getD q 0 = (i : Int) := by omega
        rw [decide_eq_false this, Bool.and_false, Bool.and_false]
      · have : decide (s + 1 ≤ q) = decide (s ≤ q) := by rw [decide_eq_decide]; omega
        rw [this]
    rw [this]
def Dfa.rep (d : Dfa) (s : Int) : Int := (fsL d.cls d.nx.length 0).getD (d.cls.getD s.toNat 0).toNat 0
structure RPR (d : Dfa) (s r : Int) : Prop where
  rg : 0 ≤ r ∧ r < d.nx.length
  le : r ≤ s
  cl : d.cls.getD r.toNat 0 = d.cls.getD s.toNat 0
  mi : ∀ q : Nat, (q : Int) < r → d.cls.getD q 0 ≠ d.cls.getD s.toNat 0
theorem jS {d : Dfa} {s : Int} (h0 : 0 ≤ s) (h1 : s < d.nx.length) : RPR d s (d.rep s) := by
  have hr := gQ (d := d) (s := s.toNat) (by omega)
  have e : d.rep s = fsV d.cls d.nx.length 0 (d.cls.getD s.toNat 0).toNat := by
    unfold Dfa.rep fsL
    exact dG _ 0 (by omega)
  rw [e]
  unfold fsV
  rw [Int.toNat_of_nonneg hr.1]
  cases hf : (List.range d.nx.length).find? (fun q => decide (0 ≤ q) && decide (d.cls.getD q 0 = d.cls.getD s.toNat 0)) with
  | none =>
    have := List.find?_eq_none.1 hf s.toNat (by simp; omega)
    simp at this
  | some q =>
    rw [List.find?_eq_some_iff_getElem] at hf
    obtain ⟨hp, i, hi, e1, hm⟩ := hf
    simp at hi e1
    subst e1
    have hp2 : d.cls.getD i 0 = d.cls.getD s.toNat 0 := by simpa using hp
    have hm2 : ∀ q : Nat, q < i → d.cls.getD q 0 ≠ d.cls.getD s.toNat 0 := fun q hq => by have := hm q hq; simpa using this
    refine ⟨⟨by show (0 : Int) ≤ (i : Int); omega, by show ((i : Nat) : Int) < _; omega⟩, ?_, by show d.cls.getD ((i : Int)).toNat 0 = _; rw [Int.toNat_natCast]; exact hp2, fun q hq => hm2 q (by have : (q : Int) < (i : Int) := hq; omega)⟩
    show (i : Int) ≤ s
    by_cases hle : (i : Int) ≤ s
    · exact hle
    · exact absurd rfl (hm2 s.toNat (by omega))
theorem im {d : Dfa} (hd : DOK d) {s : Int} (h0 : 0 ≤ s) (h1 : s < d.nx.length) : DEQ d d (d.rep s) s := by
  have h := jS h0 h1
  have := (lz hd (s := (d.rep s).toNat) (t := s.toNat) (by have := h.rg; omega) (by omega)).1 h.cl
  rw [Int.toNat_of_nonneg h.rg.1, Int.toNat_of_nonneg h0] at this
  exact this
theorem pv {d : Dfa} (hd : DOK d) {s t : Int} (h0 : 0 ≤ s) (h1 : s < d.nx.length) (t0 : 0 ≤ t) (t1 : t < d.nx.length) : d.rep s = d.rep t ↔ DEQ d d s t := by
  constructor
  · intro h
    have h2 := im hd t0 t1
    rw [← h] at h2
    exact (im hd h0 h1).symm.trans h2
  · intro h
    have := (lz hd (s := s.toNat) (t := t.toNat) (by omega) (by omega)).2 (by rw [Int.toNat_of_nonneg h0, Int.toNat_of_nonneg t0]; exact h)
    unfold Dfa.rep
    rw [this]
def fv (d : Dfa) : STP := fun q x => (d.rep (d.dl q.1 x), 0)
theorem iQ {d : Dfa} (hd : DOK d) {n : Nat} (hn : (n : Int) = d.inp) : ∀ q, inR d.nx.length 1 q → ∀ x, x < n → inR d.nx.length 1 (fv d q x) := fun q hq x hx => by
  have h1 := hd.dl (a := (x : Int)) hq.1 ⟨by omega, by omega⟩
  exact ⟨(jS h1.1 h1.2).rg, by simp [fv], by simp [fv]⟩
theorem jM {d : Dfa} (h : DOK d) : inR d.nx.length 1 (d.rep d.st, 0) := ⟨(jS h.s1 h.s2).rg, by simp, by simp⟩
def em (d : Dfa) : List W3 := bT (fv d) d.inp.toNat (d.nx.length * 1) (d.rep d.st, 0)
def fa (d : Dfa) : Dfa := if bc d = 0 then dBn (fv d) (et d) d.inp.toNat (em d) else cJ
theorem oh {d : Dfa} (h : DOK d) : (em d).length ≤ d.nx.length := by
  have h1 := h.i1
  have := (cQ (iQ h (n := d.inp.toNat) (by omega)) (jM h)).1.le
  unfold em; omega
theorem jU {d : Dfa} (h : DOK d) : fa d = dBn (fv d) (et d) d.inp.toNat (em d) := if_pos h.valid
theorem qt {d : Dfa} (h : DOK d) : LCL (fv d) d.inp.toNat (em d) := by
  have h1 := h.i1
  exact kM (iQ h (n := d.inp.toNat) (by omega)) (jM h)
theorem pU {d : Dfa} (h : DOK d) : DOK (fa d) := by
  have h1 := h.i1; have h2 := h.i2; have h3 := h.n2; have h4 := oh h
  rw [jU h]
  exact pI (qt h) (by omega) (by omega) (lE _ _ _ _) (by omega)
end Go.AV
namespace Go.AV
open Nat renaming reduceEqDiff → E, reduceAdd → D, reduceLeDiff → J, reduceLT → S, reduceMul → M, reduceSub → O
open List renaming set_cons_zero → ar, set_cons_succ → aq
/-plain-/
/-! On drepTh. -/
theorem dlQ (d : Dfa) (s : Int) (x : Nat) : d.dl s x = (d.nx.getD s.toNat []).getD x 0 := by unfold Dfa.dl Dfa.row; rw [Int.toNat_natCast]
structure M1OK (d : Dfa) (q : PP) (x : Nat) : Prop where
  r1 : 0 ≤ q.1 ∧ q.1 < d.nx.length
  rl : ((d.nx.getD q.1.toNat []).length : Int) = d.inp
  t1 : 0 ≤ (d.nx.getD q.1.toNat []).getD x 0 ∧ (d.nx.getD q.1.toNat []).getD x 0 < d.nx.length
  c1 : 0 ≤ d.cls.getD ((d.nx.getD q.1.toNat []).getD x 0).toNat 0 ∧ d.cls.getD ((d.nx.getD q.1.toNat []).getD x 0).toNat 0 < d.nx.length
  e : d.rep (d.dl q.1 x) = (fsL d.cls d.nx.length 0).getD (d.cls.getD ((d.nx.getD q.1.toNat []).getD x 0).toNat 0).toNat 0
theorem tS {d : Dfa} (hd : DOK d) {q : PP} {x : Nat} (hq : inR d.nx.length 1 q) (hx : (x : Int) < d.inp) : M1OK d q x := by
  have h1 := hd.dl (a := (x : Int)) hq.1 ⟨by omega, hx⟩
  have h2 := hd.rli hq.1
  have e := dlQ d q.1 x
  refine ⟨hq.1, h2, by rw [← e]; exact h1, ?_, by rw [e]; rfl⟩
  rw [← e]
  exact gQ (by omega)
theorem nq {d : Dfa} (hd : DOK d) : dBD (fv d) (et d) d.inp.toNat (em d) = fa d ∧ dBE (em d) = 0 := by
  have h1 := oh hd
  have h2 := hd.n2
  have h3 : ¬ 128 < (em d).length := by omega
  exact ⟨(if_neg h3).trans (jU hd).symm, if_neg h3⟩
end Go.AV
namespace Go.AV
open Nat renaming reduceEqDiff → E, reduceAdd → D, reduceLeDiff → J, reduceLT → S, reduceMul → M, reduceSub → O
open List renaming set_cons_zero → ar, set_cons_succ → aq
/-plain-/
/-! On drepTh, dsimTh, minqTh. -/
def fq (a b : Dfa) (most : Nat) : List W3 := eu (bS a b) a.inp.toNat most (a.nx.length * b.nx.length + 1) 0 [((a.st, b.st), [])]
theorem t8 {a b : Dfa} {most : Nat} (h : (fq a b most).length ≤ most) : fq a b most = bv a b ∧ (bv a b).length ≤ most := by
  unfold fq at h ⊢
  by_cases h2 : (bv a b).length ≤ most
  · exact ⟨fh _ _ _ h2, h2⟩
  · have := ma (most := most) (A := bS a b) (n := a.inp.toNat) (a.nx.length * b.nx.length + 1) 0 [((a.st, b.st), [])] (by unfold bv bT at h2; omega)
    omega
theorem sY {a b : Dfa} {most : Nat} (h : most < (fq a b most).length) : most < (bv a b).length := by
  by_cases h2 : (bv a b).length ≤ most
  · have h3 : fq a b most = bv a b := fh _ _ _ h2
    rw [h3] at h; omega
  · omega
theorem jO {A : STP} {G : PP → Bool} {i : Int} (h : 0 ≤ i) (L : List W3) : dBn A G i.toNat L = ⟨i, 0, (List.range L.length).map fun k => dRw A i.toNat L k i.toNat, L.map fun e => G e.1⟩ := by
  unfold dBn; rw [Int.toNat_of_nonneg h]
def RS1 (n : Nat) (p q : PP) : Prop := p.1 = p.2 ∧ q = (p.1, 0) ∧ 0 ≤ p.1 ∧ p.1 < n
theorem tN {d : Dfa} (hd : DOK d) {n : Nat} (hn : (n : Int) = d.inp) : SIM (bS d d) (ji d) n (RS1 d.nx.length) := by
  refine ⟨fun p q h x hx => ?_, fun p q p' q' h h' => ?_⟩
  · obtain ⟨h1, h2, h3, h4⟩ := h
    have := hd.dl (a := (x : Int)) ⟨h3, h4⟩ ⟨by omega, by omega⟩
    exact ⟨by show d.dl p.1 x = d.dl p.2 x; rw [h1], by rw [h2]; rfl, this.1, this.2⟩
  · obtain ⟨h1, h2, _⟩ := h
    obtain ⟨h3, h4, _⟩ := h'
    rw [h2, h4]
    constructor
    · intro e; rw [e]
    · intro e
      have e1 : p.1 = p'.1 := (Prod.mk.inj e).1
      exact Prod.ext e1 (by rw [← h1, ← h3]; exact e1)
theorem qk {d : Dfa} (hd : DOK d) {most : Nat} (hm : 128 ≤ most) : RL (RS1 d.nx.length) (fq d d most) (f9 d) := by
  have h1 := hd.i1; have h2 := hd.n2
  have hin := iP hd (n := d.inp.toNat) (by omega)
  have hR : RS1 d.nx.length (d.st, d.st) (d.st, 0) := ⟨rfl, rfl, hd.s1, hd.s2⟩
  have h3 := RL.prun (most := most) (tN hd (n := d.inp.toNat) (by omega)) (d.nx.length * d.nx.length + 1) 0 _ _ (RL.one hR)
  rw [kn hin (by omega) _ _ _ (gB (io hd))] at h3
  have h4 : d.nx.length * 1 ≤ d.nx.length * d.nx.length := Nat.mul_le_mul_left _ hd.n1
  rw [kw hin (d.nx.length * d.nx.length + 1) (d.nx.length * 1 + 1) 0 _ (gB (io hd)) (by omega) (by omega)] at h3
  exact h3
theorem jZ {d : Dfa} (hd : DOK d) : RL (RS1 d.nx.length) (bv d d) (f9 d) := by
  have h1 := hd.i1; have h2 := hd.n2
  have h3 := qk hd (most := 16384) (by omega)
  have h4 := kJ hd hd rfl
  have h5 : (bv d d).length ≤ d.nx.length * d.nx.length := (cQ (dE hd hd rfl (n := d.inp.toNat) (by omega)) (eH hd hd)).1.le
  have h6 : d.nx.length * d.nx.length ≤ 128 * 128 := Nat.mul_le_mul h2 h2
  have h7 : fq d d 16384 = bv d d := fh _ _ _ (show (bv d d).length ≤ 16384 by omega)
  rw [h7] at h3; exact h3
theorem qG {d : Dfa} (hd : DOK d) : (f9 d).length ≤ d.nx.length := by
  have h1 := hd.i1
  have := (cQ (iP hd (n := d.inp.toNat) (by omega)) (io hd)).1.le
  unfold f9; omega
theorem oM {d : Dfa} (hd : DOK d) : (bv d d).length ≤ d.nx.length := by rw [(jZ hd).1]; exact qG hd
structure SHP (d : Dfa) (P : List W3) (k : Nat) : Prop where
  rg : 0 ≤ (P.getD k w30).1.1 ∧ (P.getD k w30).1.1 < d.nx.length
end Go.AV
namespace Go.AV
open Nat renaming reduceEqDiff → E, reduceAdd → D, reduceLeDiff → J, reduceLT → S, reduceMul → M, reduceSub → O
open List renaming set_cons_zero → ar, set_cons_succ → aq
/-plain-/
/-! On drcTh, compTh, shapesTh. -/
def jl (m : Mly) : STP := fun q x => (m.nxt q.1 x, m.out q.1 x)
def nL (q : PP) : Bool := decide (q.2 = 1)
def f8 (m : Mly) : Bool := m.ot.flatten.any fun o => decide (1 < o)
def pf (m : Mly) (acc : Bool) : List W3 := bT (jl m) m.inp.toNat (m.nx.length * 2) (m.st, bI1 acc)
def fmE (m : Mly) (acc : Bool) : Int := if ¬ cv m = 0 then cv m else if f8 m = true then 1 else dBE (pf m acc)
def fmD (m : Mly) (acc : Bool) : Dfa := if ¬ cv m = 0 then cJ else if f8 m = true then cJ else dBD (jl m) nL m.inp.toNat (pf m acc)
theorem kP : ∀ (xs : List Int) (b : Int), 1 < xs.foldl max b ↔ 1 < b ∨ ∃ o, o ∈ xs ∧ 1 < o
  | [], b => by simp
  | x :: xs, b => by
    rw [List.foldl_cons, kP xs]
    constructor
    · rintro (h | ⟨o, ho, h⟩)
      · by_cases h2 : 1 < b
        · exact .inl h2
        · exact .inr ⟨x, List.mem_cons_self, by omega⟩
      · exact .inr ⟨o, List.mem_cons_of_mem _ ho, h⟩
    · rintro (h | ⟨o, ho, h⟩)
      · exact .inl (by omega)
      · rcases List.mem_cons.1 ho with rfl | ho
        · exact .inl (by omega)
        · exact .inr ⟨o, ho, h⟩
theorem ro {xs : List Int} (h : 0 < xs.length) : 1 < mxL xs ↔ ∃ o, o ∈ xs ∧ 1 < o := by
  unfold mxL
  rw [kP]
  constructor
  · rintro (h2 | h2)
    · exact ⟨_, gG.2 ⟨0, h, rfl⟩, h2⟩
    · exact h2
  · exact .inr
theorem kA {m : Mly} : f8 m = true ↔ ∃ o, o ∈ m.ot.flatten ∧ 1 < o := by unfold f8; rw [List.any_eq_true]; exact ⟨fun ⟨o, h1, h2⟩ => ⟨o, h1, by simpa using h2⟩, fun ⟨o, h1, h2⟩ => ⟨o, h1, by simpa using h2⟩⟩
theorem qp {m : Mly} (hm : MOK m) : 0 < m.ot.flatten.length := by
  have h := jQ hm m.ot.length (Nat.le_refl _)
  rw [List.take_length] at h
  have h1 := hm.i1; have h2 := hm.n1; have h3 := hm.ol
  have : 0 < (m.ot.length : Int) * m.inp := Int.mul_pos (by omega) (by omega)
  omega
theorem qa {xs : List Int} (h : 0 < xs.length) : 0 < (kl xs).length := by
  have : xs.getD 0 0 ∈ kl xs := ((i6 xs).2 _).2 (gG.2 ⟨0, h, rfl⟩)
  obtain ⟨j, hj, _⟩ := gG.1 this
  omega
theorem mB {m : Mly} (hv : cv m = 0) : 0 < (j7 m).length ∧ (1 < mxL (j7 m) ↔ f8 m = true) := by
  have hm := mQ hv
  rw [l9 hv]
  have h := qa (qp hm)
  refine ⟨h, ?_⟩
  rw [ro h, kA]
  exact ⟨fun ⟨o, h1, h2⟩ => ⟨o, ((i6 _).2 o).1 h1, h2⟩, fun ⟨o, h1, h2⟩ => ⟨o, ((i6 _).2 o).2 h1, h2⟩⟩
theorem ss {m : Mly} (hm : MOK m) (hb : ¬ f8 m = true) {s a : Int} (hs : 0 ≤ s ∧ s < m.nx.length) (ha : 0 ≤ a ∧ a < m.inp) : 0 ≤ m.out s a ∧ m.out s a < 2 := by
  have h1 := rh hm hs ha
  have h2 := hm.or s.toNat a.toNat (by omega) (by omega)
  have h3 : ¬ 1 < m.out s a := fun h => hb (kA.2 ⟨_, h1, h⟩)
  have h4 : 0 ≤ m.out s a := h2.1
  omega
theorem nK {m : Mly} (hm : MOK m) (hb : ¬ f8 m = true) {n : Nat} (hn : (n : Int) = m.inp) : ∀ q, inR m.nx.length 2 q → ∀ x, x < n → inR m.nx.length 2 (jl m q x) := fun q hq x hx => by
  obtain ⟨h1, h2⟩ := id hq.1
  have h3 := hm.nr q.1.toNat x (by omega) (by omega)
  have h4 := ss hm hb hq.1 (a := (x : Int)) ⟨by omega, by omega⟩
  have h5 : m.nxt q.1 x = (m.nx.getD q.1.toNat []).getD x 0 := by unfold Mly.nxt; rw [Int.toNat_natCast]
  exact ⟨by show 0 ≤ m.nxt q.1 x ∧ m.nxt q.1 x < _; rw [h5]; exact h3, h4⟩
theorem p8 {m : Mly} (hm : MOK m) (acc : Bool) : inR m.nx.length 2 (m.st, bI1 acc) := ⟨⟨hm.s1, hm.s2⟩, by unfold bI1; cases acc <;> simp, by unfold bI1; cases acc <;> simp⟩
theorem pe {m : Mly} {acc : Bool} (h : ¬ cv m = 0) : fmE m acc = cv m ∧ fmD m acc = cJ := ⟨if_pos h, if_pos h⟩
theorem pt {m : Mly} {acc : Bool} (h : cv m = 0) (h2 : f8 m = true) : fmE m acc = 1 ∧ fmD m acc = cJ := by
  unfold fmE fmD; rw [if_neg (fun k => k h), if_pos h2, if_neg (fun k => k h), if_pos h2]; exact ⟨rfl, rfl⟩
theorem mA {m : Mly} {acc : Bool} (h : cv m = 0) (h2 : ¬ f8 m = true) : fmE m acc = dBE (pf m acc) ∧ fmD m acc = dBD (jl m) nL m.inp.toNat (pf m acc) := by
  unfold fmE fmD; rw [if_neg (fun k => k h), if_neg h2, if_neg (fun k => k h), if_neg h2]; exact ⟨rfl, rfl⟩
end Go.AV
namespace Go.AV
open Nat renaming reduceEqDiff → E, reduceAdd → D, reduceLeDiff → J, reduceLT → S, reduceMul → M, reduceSub → O
open List renaming set_cons_zero → ar, set_cons_succ → aq
/-plain-/
/-! On drepTh. -/
def Dfa.sgP (d : Dfa) (cl : List Int) (s k : Nat) : List Int := cl.getD s 0 :: ((d.nx.getD s []).take k).map fun t => cl.getD t.toNat 0
theorem qz {d : Dfa} {cl : List Int} {s k : Nat} (h : k < (d.nx.getD s []).length) : d.sgP cl s (k + 1) = d.sgP cl s k ++ [cl.getD ((d.nx.getD s []).getD k 0).toNat 0] := by
  unfold Dfa.sgP; rw [dk _ 0 h]; rfl
theorem rE (d : Dfa) (cl : List Int) (s : Nat) : d.sgP cl s (d.nx.getD s []).length = d.sg cl s := by unfold Dfa.sgP Dfa.sg; rw [List.take_length]
theorem qV {d : Dfa} {cl : List Int} {s k : Nat} (h : k ≤ (d.nx.getD s []).length) : (d.sgP cl s k).length = k + 1 := by unfold Dfa.sgP; rw [List.length_cons, List.length_map, List.length_take]; omega
theorem sv {α : Type} [DecidableEq α] {dv q : α} : ∀ {l : List α} {k : Nat}, (∀ j, j < k → l.getD j dv ≠ q) → k < l.length → l.getD k dv = q → pos l q = k ∧ q ∈ l
  | [], k, _, hk, _ => by simp at hk
  | x :: l, 0, _, _, h => by
    have : x = q := by simpa using h
    subst this; simp [pos]
  | x :: l, k + 1, hq, hk, h => by
    have h0 : x ≠ q := by have := hq 0 (by omega); simpa using this
    have ih := sv (l := l) (k := k) (dv := dv) (q := q) (fun j hj => by have := hq (j + 1) (by omega); simpa using this) (by simpa using hk) (by simpa using h)
    exact ⟨by simp [pos, h0, ih.1], by simp [ih.2]⟩
theorem nW {α : Type} [DecidableEq α] {dv q : α} {l : List α} (hq : ∀ j, j < l.length → l.getD j dv ≠ q) : q ∉ l := fun h => by
  obtain ⟨j, hj⟩ := List.getElem?_of_mem h
  exact hq j (List.getElem?_eq_some_iff.1 hj).1 (by rw [List.getD, hj]; rfl)
def ixL (xs : List (List Int)) (x : List Int) : Int := if x ∈ xs then (pos xs x : Int) else -1
theorem iz {xs : List (List Int)} {x : List Int} (h : x ∈ xs) : ixL xs x = (pos xs x : Int) := if_pos h
theorem kv {xs : List (List Int)} {x : List Int} (h : x ∉ xs) : ixL xs x = -1 := if_neg h
theorem ns {xs : List (List Int)} {x : List Int} : ixL xs x < 0 ↔ x ∉ xs := by
  constructor
  · intro h hm; rw [iz hm] at h; omega
  · intro h; rw [kv h]; omega
theorem ly {α : Type} [DecidableEq α] {f : Nat → α} {k n : Nat} (hk : k < n) (h : f k ∈ cI f k) : pos (cI f n) (f k) = pos (cI f k) (f k) := by
  rw [jh f (i := k) (k := k + 1) (by omega) n (by omega), d8, dn h]
theorem me {α : Type} [DecidableEq α] {f : Nat → α} {k n : Nat} (hk : k < n) (h : f k ∉ cI f k) : pos (cI f n) (f k) = (cI f k).length := by
  rw [jh f (i := k) (k := k + 1) (by omega) n (by omega), d8, de h, j3 h]
def nxF (d : Dfa) (cl : List Int) (s : Nat) : Int := (pos (cI (d.sg cl) d.nx.length) (d.sg cl s) : Int)
end Go.AV
namespace Go.AV
open Nat renaming reduceEqDiff → E, reduceAdd → D, reduceLeDiff → J, reduceLT → S, reduceMul → M, reduceSub → O
open List renaming set_cons_zero → ar, set_cons_succ → aq
/-plain-/
/-! On drepTh, sigTh, dfmTh. -/
def lq (P : Nat → Bool) (s : Nat) : Nat := ((List.range s).find? P).getD s
theorem mR {P : Nat → Bool} {s c : Nat} (hc : c ≤ s) (hq : ∀ q, q < c → P q = false) (h : c < s → P c = true) : lq P s = c := by
  unfold lq
  by_cases e : c < s
  · rw [kB e (h e) hq]; rfl
  · have : c = s := by omega
    subst this
    rw [kX hq]; rfl
theorem fB {P : Nat → Bool} {s : Nat} (h : P s = true) : lq P s ≤ s ∧ P (lq P s) = true ∧ ∀ q, q < lq P s → P q = false := by
  unfold lq
  cases hf : (List.range s).find? P with
  | none =>
    refine ⟨Nat.le_refl _, h, fun q hq => ?_⟩
    have := List.find?_eq_none.1 hf q (List.mem_range.2 hq)
    simpa using this
  | some c =>
    rw [List.find?_eq_some_iff_getElem] at hf
    obtain ⟨hp, i, hi, e1, hm⟩ := hf
    simp at hi e1
    subst e1
    exact ⟨by show i ≤ s; omega, hp, fun q hq => by have := hm q hq; simpa using this⟩
theorem mI {α : Type} [DecidableEq α] (f : Nat → α) {s t : Nat} : lq (fun q => decide (f q = f s)) s = lq (fun q => decide (f q = f t)) t ↔ f s = f t := by
  have h1 := fB (P := fun q => decide (f q = f s)) (s := s) (by simp)
  have h2 := fB (P := fun q => decide (f q = f t)) (s := t) (by simp)
  have h3 : f (lq (fun q => decide (f q = f s)) s) = f s := by simpa using h1.2.1
  have h4 : f (lq (fun q => decide (f q = f t)) t) = f t := by simpa using h2.2.1
  constructor
  · intro e; rw [← h3, e, h4]
  · intro e
    rw [e] at h1 h3 ⊢
    rcases Nat.lt_trichotomy (lq (fun q => decide (f q = f t)) s) (lq (fun q => decide (f q = f t)) t) with h | h | h
    · have := h2.2.2 _ h; rw [h1.2.1] at this; cases this
    · exact h
    · have := h1.2.2 _ h; rw [h2.2.1] at this; cases this
def rc0 (t : Dfa) (s : Nat) : Int := (lq (fun q => decide (t.acc.getD q false = t.acc.getD s false)) s : Int)
def rcF (t : Dfa) (cl : List Int) (s : Nat) : Int := (lq (fun q => decide (t.sg cl q = t.sg cl s)) s : Int)
def rcl (t : Dfa) : Nat → List Int
  | 0 => (List.range t.nx.length).map (rc0 t)
  | r + 1 => (List.range t.nx.length).map (rcF t (rcl t r))
theorem kz (t : Dfa) : ∀ r, (rcl t r).length = t.nx.length
  | 0 => by simp [rcl]
  | r + 1 => by simp [rcl]
theorem sI {t : Dfa} {s c : Nat} (hc : c ≤ s) (hq : ∀ q, q < c → t.acc.getD q false ≠ t.acc.getD s false) (h : c < s → t.acc.getD c false = t.acc.getD s false) : rc0 t s = c := by
  unfold rc0; rw [mR hc (fun q hq2 => by simpa using hq q hq2) (fun e => by simpa using h e)]
theorem sG {t : Dfa} {cl : List Int} {s c : Nat} (hc : c ≤ s) (hq : ∀ q, q < c → t.sg cl q ≠ t.sg cl s) (h : c < s → t.sg cl c = t.sg cl s) : rcF t cl s = c := by
  unfold rcF; rw [mR hc (fun q hq2 => by simpa using hq q hq2) (fun e => by simpa using h e)]
/-- The reference's classes are the program's, each named by its least state. -/
theorem fX {t : Dfa} (ht : DOK t) : ∀ (r : Nat) {s : Nat}, s < t.nx.length → (rcl t r).getD s 0 = (lq (fun q => decide ((t.cl r).getD q 0 = (t.cl r).getD s 0)) s : Int)
  | 0, s, hs => by
    unfold rcl
    rw [dG _ 0 hs]
    unfold rc0
    congr 1
    have h1 := fB (P := fun q => decide ((t.cl 0).getD q 0 = (t.cl 0).getD s 0)) (s := s) (by simp)
    refine mR h1.1 (fun q hq => ?_) fun hlt => ?_
    · have h2 := h1.2.2 q hq
      have h3 : ¬ (t.cl 0).getD q 0 = (t.cl 0).getD s 0 := by simpa using h2
      rw [iM (by omega) hs] at h3
      have h4 : ¬ t.acc.getD q false = t.acc.getD s false := by unfold Dfa.ac at h3; rw [Int.toNat_natCast, Int.toNat_natCast] at h3; exact h3
      simpa using h4
    · have h3 : (t.cl 0).getD (lq (fun q => decide ((t.cl 0).getD q 0 = (t.cl 0).getD s 0)) s) 0 = (t.cl 0).getD s 0 := by simpa using h1.2.1
      rw [iM (by omega) hs] at h3
      unfold Dfa.ac at h3; rw [Int.toNat_natCast, Int.toNat_natCast] at h3
      simpa using h3
  | r + 1, s, hs => by
    have ih : ∀ {p q : Nat}, p < t.nx.length → q < t.nx.length → ((rcl t r).getD p 0 = (rcl t r).getD q 0 ↔ (t.cl r).getD p 0 = (t.cl r).getD q 0) := fun {p q} hp hq => by
      rw [fX ht r hp, fX ht r hq]
      rw [Int.ofNat_inj]
      exact mI (fun q => (t.cl r).getD q 0)
    have key : ∀ {p q : Nat}, p < t.nx.length → q < t.nx.length → (t.sg (rcl t r) p = t.sg (rcl t r) q ↔ (t.cl (r + 1)).getD p 0 = (t.cl (r + 1)).getD q 0) := fun {p q} hp hq => by
      rw [hQ ht hp hq]
      show _ ↔ (t.nxL (t.cl r)).getD p 0 = (t.nxL (t.cl r)).getD q 0
      rw [jN hp hq, hQ ht hp hq, ih hp hq]
      refine and_congr_right fun _ => forall_congr' fun a => forall_congr' fun ha => ?_
      have h1 := ht.dl (s := (p : Int)) (a := (a : Int)) ⟨by omega, by omega⟩ ⟨by omega, ha⟩
      have h2 := ht.dl (s := (q : Int)) (a := (a : Int)) ⟨by omega, by omega⟩ ⟨by omega, ha⟩
      exact ih (by omega) (by omega)
    show ((List.range t.nx.length).map (rcF t (rcl t r))).getD s 0 = _
    rw [dG _ 0 hs]
    unfold rcF
    congr 1
    have h1 := fB (P := fun q => decide ((t.cl (r + 1)).getD q 0 = (t.cl (r + 1)).getD s 0)) (s := s) (by simp)
    refine mR h1.1 (fun q hq => ?_) fun hlt => ?_
    · have h2 := h1.2.2 q hq
      have h3 : ¬ (t.cl (r + 1)).getD q 0 = (t.cl (r + 1)).getD s 0 := by simpa using h2
      rw [← key (by omega) hs] at h3
      simpa using h3
    · have h3 : (t.cl (r + 1)).getD (lq (fun q => decide ((t.cl (r + 1)).getD q 0 = (t.cl (r + 1)).getD s 0)) s) 0 = (t.cl (r + 1)).getD s 0 := by simpa using h1.2.1
      rw [← key (by omega) hs] at h3
      simpa using h3
def rC (t : Dfa) : List Int := rcl t t.nx.length
structure RCK (t : Dfa) : Prop where
  rg : ∀ s, s < t.nx.length → 0 ≤ (rC t).getD s 0 ∧ (rC t).getD s 0 ≤ s
  eq : ∀ s u, s < t.nx.length → u < t.nx.length → ((rC t).getD s 0 = (rC t).getD u 0 ↔ DEQ t t s u)
  id : ∀ s, s < t.nx.length → (rC t).getD ((rC t).getD s 0).toNat 0 = (rC t).getD s 0
theorem rck {t : Dfa} (ht : DOK t) : RCK t := by
  obtain ⟨j, hj, h, _⟩ := ni ht
  have heq : ∀ s u, s < t.nx.length → u < t.nx.length → ((rC t).getD s 0 = (rC t).getD u 0 ↔ DEQ t t s u) := fun s u hs hu => by
    unfold rC
    rw [fX ht _ hs, fX ht _ hu, Int.ofNat_inj]
    refine (mI (fun q => (t.cl t.nx.length).getD q 0)).trans ?_
    have := pA ht h (t.nx.length - j) hs hu
    rw [show j + (t.nx.length - j) = t.nx.length by omega] at this
    exact this
  refine ⟨fun s hs => ?_, heq, fun s hs => ?_⟩
  · unfold rC
    rw [fX ht _ hs]
    have h1 := fB (P := fun q => decide ((t.cl t.nx.length).getD q 0 = (t.cl t.nx.length).getD s 0)) (s := s) (by simp)
    omega
  · unfold rC
    rw [fX ht _ hs, Int.toNat_natCast]
    have h1 := fB (P := fun q => decide ((t.cl t.nx.length).getD q 0 = (t.cl t.nx.length).getD s 0)) (s := s) (by simp)
    rw [fX ht _ (by omega), Int.ofNat_inj]
    have h3 : (t.cl t.nx.length).getD (lq (fun q => decide ((t.cl t.nx.length).getD q 0 = (t.cl t.nx.length).getD s 0)) s) 0 = (t.cl t.nx.length).getD s 0 := by simpa using h1.2.1
    exact (mI (fun q => (t.cl t.nx.length).getD q 0)).2 h3
/-! The states that name a class, and their numbers. -/
def ffR (C : List Int) (s : Nat) : List Nat := (List.range s).filter fun q => decide (C.getD q 0 = (q : Int))
theorem eP {C : List Int} {s : Nat} (h : C.getD s 0 = (s : Int)) : ffR C (s + 1) = ffR C s ++ [s] := by
  unfold ffR; rw [List.range_succ, List.filter_append, List.filter_cons, if_pos (by simpa using h)]; rfl
theorem gE {C : List Int} {s : Nat} (h : ¬ C.getD s 0 = (s : Int)) : ffR C (s + 1) = ffR C s := by
  unfold ffR; rw [List.range_succ, List.filter_append, List.filter_cons, if_neg (by simpa using h)]; simp
theorem gj {C : List Int} {s q : Nat} : q ∈ ffR C s ↔ q < s ∧ C.getD q 0 = (q : Int) := by unfold ffR; rw [List.mem_filter, List.mem_range]; simp
theorem mu (C : List Int) (s : Nat) : (ffR C s).length ≤ s := by
  have := List.length_filter_le (fun q => decide (C.getD q 0 = (q : Int))) (List.range s)
  rw [List.length_range] at this; exact this
def nmV (C : List Int) (q : Nat) : Int := if C.getD q 0 = (q : Int) then ((ffR C q).length : Int) else 0
def nmL (C : List Int) (n : Nat) : List Int := (List.range n).map (nmV C)
theorem nB {C : List Int} : ∀ {s q : Nat}, q < s → C.getD q 0 = (q : Int) → pos (ffR C s) q = (ffR C q).length
  | 0, q, h, _ => by omega
  | s + 1, q, h, hc => by
    by_cases e : q = s
    · subst e
      rw [eP hc, j3]
      intro hm; have := (gj.1 hm).1; omega
    · have ih := nB (s := s) (by omega) hc
      by_cases h2 : C.getD s 0 = (s : Int)
      · rw [eP h2, ew _ (gj.2 ⟨by omega, hc⟩)]; exact ih
      · rw [gE h2]; exact ih
def rwM (t : Dfa) (C : List Int) (s x : Nat) : List Int := (List.range x).map fun a => (nmL C t.nx.length).getD (C.getD ((t.nx.getD s []).getD a 0).toNat 0).toNat 0
theorem pO (t : Dfa) (C : List Int) (s x : Nat) : rwM t C s (x + 1) = rwM t C s x ++ [(nmL C t.nx.length).getD (C.getD ((t.nx.getD s []).getD x 0).toNat 0).toNat 0] := by unfold rwM; rw [gy]
theorem kh (t : Dfa) (C : List Int) (s x : Nat) : (rwM t C s x).length = x := by simp [rwM]
theorem sF (C : List Int) (n : Nat) : (nmL C n).length = n := by simp [nmL]
def r8 (t : Dfa) : Dfa := ⟨t.inp, 0, (ffR (rC t) t.nx.length).map fun s => rwM t (rC t) s t.inp.toNat, (ffR (rC t) t.nx.length).map fun s => t.acc.getD s false⟩
def trm (d : Dfa) : Dfa := cr 0 d d
theorem j9 (d : Dfa) : d4 d d = bc d := by
  unfold d4
  by_cases h : bc d = 0
  · rw [if_pos h, if_pos h, if_pos rfl, h]
  · rw [if_neg h]
theorem mJ {d : Dfa} (hd : DOK d) : cp 0 d d = 0 ∧ trm d = dBn (bS d d) (ez 0 d d) d.inp.toNat (bv d d) ∧ DOK (trm d) := by
  have h1 := hd.i1; have h2 := hd.i2; have h3 := hd.n2
  have h4 := oM hd
  have ht : d4 d d = 0 := (j9 d).trans hd.valid
  have e : trm d = dBn (bS d d) (ez 0 d d) d.inp.toNat (bv d d) := by
    unfold trm cr; rw [if_neg (by omega), if_pos ht]; exact if_neg (by omega)
  refine ⟨by unfold cp; rw [if_neg (by omega), if_pos ht]; exact if_neg (by omega), e, ?_⟩
  rw [e]
  exact pI (kM (dE hd hd rfl (n := d.inp.toNat) (by omega)) (eH hd hd)) (by omega) (by omega) (lE _ _ _ _) (by omega)
theorem kr {d : Dfa} (h : ¬ bc d = 0) : cp 0 d d = bc d := by
  unfold cp; rw [if_neg (by omega), if_neg (by rw [j9]; exact h), j9]
def gK (d : Dfa) : Dfa := if bc d = 0 then r8 (trm d) else cJ
end Go.AV
namespace Go.AV
open Nat renaming reduceEqDiff → E, reduceAdd → D, reduceLeDiff → J, reduceLT → S, reduceMul → M, reduceSub → O
open List renaming set_cons_zero → ar, set_cons_succ → aq
/-plain-/
/-! On drmTh: the reference's Min is the program's. -/
def hM (d : Dfa) (p : PP) : PP := (d.rep p.1, 0)
def IM (d : Dfa) (p : PP) : Prop := p.1 = p.2 ∧ 0 ≤ p.1 ∧ p.1 < d.nx.length
theorem tv {d : Dfa} (hd : DOK d) {n : Nat} (hn : (n : Int) = d.inp) : HOM (bS d d) (fv d) n (IM d) (hM d) := by
  refine ⟨fun p hp x hx => ?_, fun p hp x hx => ?_⟩
  · obtain ⟨h1, h2⟩ := hp
    have := hd.dl (a := (x : Int)) h2 ⟨by omega, by omega⟩
    exact ⟨by show d.dl p.1 x = d.dl p.2 x; rw [h1], this⟩
  · obtain ⟨h1, h2⟩ := hp
    have h3 := (jS h2.1 h2.2).rg
    have h4 := hd.dl (a := (x : Int)) h3 ⟨by omega, by omega⟩
    have h5 := hd.dl (a := (x : Int)) h2 ⟨by omega, by omega⟩
    show (d.rep (d.dl (d.rep p.1) x), (0 : Int)) = (d.rep (d.dl p.1 x), 0)
    rw [(pv hd h4.1 h4.2 h5.1 h5.2).2 ((im hd h2.1 h2.2).step ⟨by omega, by omega⟩)]
theorem qg {d : Dfa} (hd : DOK d) : (em d).map Prod.fst = dz (hF (hM d) (bv d d)) := by
  have h1 := hd.i1
  have h0 : IM d (d.st, d.st) := ⟨rfl, hd.s1, hd.s2⟩
  have h2 : inR d.nx.length 1 (hM d (d.st, d.st)) := jM hd
  exact rn (p := (d.st, d.st)) (tv hd (n := d.inp.toNat) (by omega)) (dE hd hd rfl (n := d.inp.toNat) (by omega)) (iQ hd (n := d.inp.toNat) (by omega)) h0 (eH hd hd) h2
def gM (d : Dfa) (i : Nat) : PP := hM d ((bv d d).getD i w30).1
theorem qB (h : PP → PP) (L : List W3) : hF h L = (List.range L.length).map fun i => h (L.getD i w30).1 := by
  refine List.ext_getElem (by simp [hF]) fun i h1 h2 => ?_
  have hi : i < L.length := by simpa [hF] using h1
  simp [hF, List.getD, hi]
theorem ow {d : Dfa} (hd : DOK d) : (em d).map Prod.fst = cI (gM d) (bv d d).length := by
  rw [qg hd, qB]; rfl
theorem lP {C : List Int} {g : Nat → PP} {n : Nat} (hr : ∀ s, s < n → 0 ≤ C.getD s 0 ∧ C.getD s 0 ≤ s) (hi : ∀ s, s < n → C.getD (C.getD s 0).toNat 0 = C.getD s 0) (hg : ∀ s u, s < n → u < n → (C.getD s 0 = C.getD u 0 ↔ g s = g u)) : ∀ k, k ≤ n → cI g k = (ffR C k).map g
  | 0, _ => rfl
  | k + 1, hk => by
    have ih := lP hr hi hg k (by omega)
    rw [d8]
    have h1 := hr k (by omega)
    by_cases e : C.getD k 0 = (k : Int)
    · rw [eP e, List.map_append, de, ih]; rfl
      rw [du]
      rintro ⟨i, hik, e2⟩
      have h2 := (hg i k (by omega) (by omega)).2 e2
      have h3 := hr i (by omega)
      omega
    · rw [gE e, dn, ih]
      rw [du]
      refine ⟨(C.getD k 0).toNat, by omega, (hg _ k (by omega) (by omega)).1 (hi k (by omega))⟩
theorem lx {g : Nat → PP} {j : Nat} : ∀ {F : List Nat}, (∀ x, x ∈ F → g x = g j → x = j) → pos (F.map g) (g j) = pos F j
  | [], _ => rfl
  | x :: F, h => by
    have ih := lx (F := F) fun y hy => h y (List.mem_cons_of_mem _ hy)
    by_cases e : x = j
    · subst e; simp [pos]
    · have e2 : g x ≠ g j := fun e2 => e (h x List.mem_cons_self e2)
      simp [pos, e, e2, ih]
theorem fw {d : Dfa} (hd : DOK d) {i : Nat} (hi : i < (bv d d).length) : ((bv d d).getD i w30).1 = (((bv d d).getD i w30).1.1, ((bv d d).getD i w30).1.1) ∧ 0 ≤ ((bv d d).getD i w30).1.1 ∧ ((bv d d).getD i w30).1.1 < d.nx.length := by
  obtain ⟨⟨h1, _, h3⟩, _⟩ := (jZ hd).2 i hi
  exact ⟨Prod.ext rfl h1.symm, h3⟩
theorem sB {t : Dfa} {C : List Int} {s x a : Nat} (h0 : a < x) {h : a < (rwM t C s x).length} : (rwM t C s x)[a] = (nmL C t.nx.length).getD (C.getD ((t.nx.getD s []).getD a 0).toNat 0).toNat 0 := by
  have e : (rwM t C s x).getD a 0 = (nmL C t.nx.length).getD (C.getD ((t.nx.getD s []).getD a 0).toNat 0).toNat 0 := by unfold rwM; exact dG _ 0 h0
  rw [← e, List.getD, List.getElem?_eq_getElem h]; rfl
theorem r0 {A : STP} {n : Nat} {L : List W3} {i x a : Nat} (h0 : a < x) {h : a < (dRw A n L i x).length} : (dRw A n L i x)[a] = (pos (L.map Prod.fst) (A (L.getD i w30).1 a) : Int) := by
  have e : (dRw A n L i x).getD a 0 = (pos (L.map Prod.fst) (A (L.getD i w30).1 a) : Int) := by unfold dRw; exact dG _ 0 h0
  rw [← e, List.getD, List.getElem?_eq_getElem h]; rfl
theorem oB (d : Dfa) : gK d = fa d := by
  unfold gK
  by_cases hv : bc d = 0
  · rw [if_pos hv]
    have hd := dx hv
    have i1 := hd.i1
    obtain ⟨_, eT, hT⟩ := mJ hd
    have hlc : LCL (bS d d) d.inp.toNat (bv d d) := kM (dE hd hd rfl (n := d.inp.toNat) (by omega)) (eH hd hd)
    have hK := rck hT
    have eN : (trm d).nx.length = (bv d d).length := by rw [eT]; exact nH.1
    have eI : (trm d).inp = d.inp := by rw [eT]; show ((d.inp.toNat : Nat) : Int) = d.inp; omega
    have eA : ∀ i, i < (bv d d).length → (trm d).acc.getD i false = d.ac ((bv d d).getD i w30).1.1 := fun i hi => by
      have h1 := pE (A := bS d d) (G := ez 0 d d) (n := d.inp.toNat) (L := bv d d) (q := ((bv d d).getD i w30).1) (List.mem_map.2 ⟨_, cO hi, rfl⟩)
      rw [lv hlc.nd hi, ← eT] at h1
      have h2 : (trm d).ac (i : Int) = (trm d).acc.getD i false := by unfold Dfa.ac; rw [Int.toNat_natCast]
      rw [← h2, h1, (fw hd hi).1]
      show opB 0 (d.ac _) (d.ac _) = _
      unfold opB; rw [if_pos rfl, Bool.and_self]
    have eR : ∀ i a : Nat, i < (bv d d).length → (a : Int) < d.inp → ((trm d).nx.getD i []).getD a 0 = (pos ((bv d d).map Prod.fst) (bS d d ((bv d d).getD i w30).1 a) : Int) := fun i a hi ha => by
      rw [eT, kC hi, mG (by omega)]
    have eD : ∀ s u : Nat, s < (bv d d).length → u < (bv d d).length → (DEQ (trm d) (trm d) s u ↔ DEQ d d ((bv d d).getD s w30).1.1 ((bv d d).getD u w30).1.1) := fun s u hs hu => by
      have key : ∀ i, i < (bv d d).length → ∀ w, iK d.inp w → (trm d).ac ((trm d).run (i : Int) w) = d.ac (d.run ((bv d d).getD i w30).1.1 w) := fun i hi w hw => by
        have h1 := pS (G := ez 0 d d) hlc (q := ((bv d d).getD i w30).1) (List.mem_map.2 ⟨_, cO hi, rfl⟩) (w := w) (by rw [Int.toNat_of_nonneg (by omega)]; exact hw)
        rw [lv hlc.nd hi, ← eT] at h1
        rw [h1, (fw hd hi).1, ph d d w _ _ hw]
        show opB 0 (d.ac _) (d.ac _) = _
        unfold opB; rw [if_pos rfl, Bool.and_self]
      constructor
      · intro h w hw
        have := h w (by rw [eI]; exact hw)
        rw [key s hs w hw, key u hu w hw] at this; exact this
      · intro h w hw
        rw [eI] at hw
        rw [key s hs w hw, key u hu w hw]; exact h w hw
    have hg : ∀ s u, s < (bv d d).length → u < (bv d d).length → ((rC (trm d)).getD s 0 = (rC (trm d)).getD u 0 ↔ gM d s = gM d u) := fun s u hs hu => by
      rw [hK.eq s u (by omega) (by omega), eD s u hs hu]
      obtain ⟨_, s0, s1⟩ := fw hd hs
      obtain ⟨_, u0, u1⟩ := fw hd hu
      rw [← pv hd s0 s1 u0 u1]
      unfold gM hM
      exact ⟨fun e => by rw [e], fun e => (Prod.mk.inj e).1⟩
    have hF2 : (em d).map Prod.fst = (ffR (rC (trm d)) (bv d d).length).map (gM d) := by
      rw [ow hd]
      exact lP (fun s hs => hK.rg s (by omega)) (fun s hs => hK.id s (by omega)) hg _ (Nat.le_refl _)
    have hlen : (em d).length = (ffR (rC (trm d)) (bv d d).length).length := by
      have := congrArg List.length hF2
      rw [List.length_map, List.length_map] at this; exact this
    rw [jU hd]
    unfold r8 dBn
    rw [eN, eI, Int.toNat_of_nonneg (show 0 ≤ d.inp by omega)]
    congr 1
    · refine List.ext_getElem (by rw [List.length_map, List.length_map, List.length_range, hlen]) fun i h1 h2 => ?_
      rw [List.length_map] at h1
      rw [List.getElem_map, List.getElem_map, List.getElem_range]
      generalize hs : (ffR (rC (trm d)) (bv d d).length)[i] = s
      have hsm : s ∈ ffR (rC (trm d)) (bv d d).length := by rw [← hs]; exact List.getElem_mem h1
      have hsl := (gj.1 hsm).1
      have hLi : ((em d).getD i w30).1 = gM d s := by
        rw [← pF (by omega), hF2]
        simp [List.getD, h1, hs]
      refine List.ext_getElem (by rw [kh, bZ]) fun a h3 h4 => ?_
      rw [kh] at h3
      have ha : (a : Int) < d.inp := by omega
      have hin : bS d d ((bv d d).getD s w30).1 a ∈ (bv d d).map Prod.fst := hlc.cl s hsl a (by omega)
      have hu := fu hin
      have hua := ke hin
      rw [sB h3, r0 (show a < d.inp.toNat from h3), eR s a hsl ha, Int.toNat_natCast, hF2, hLi]
      generalize pos ((bv d d).map Prod.fst) (bS d d ((bv d d).getD s w30).1 a) = u at *
      have hst : fv d (gM d s) a = gM d u := by
        obtain ⟨e1, e2⟩ := fw hd hsl
        unfold gM
        rw [(tv hd (n := d.inp.toNat) (by omega)).eq _ ⟨by rw [e1], e2⟩ a (by omega), hua]
      have hr := hK.rg u (by omega)
      have hid := hK.id u (by omega)
      have hgj : gM d u = gM d ((rC (trm d)).getD u 0).toNat := (hg u _ hu (by omega)).1 hid.symm
      have hjj : (rC (trm d)).getD ((rC (trm d)).getD u 0).toNat 0 = ((((rC (trm d)).getD u 0).toNat : Nat) : Int) := by rw [hid]; omega
      rw [hst, hgj, lx, nB (by omega) hjj]
      · unfold nmL
        rw [dG _ 0 (show ((rC (trm d)).getD u 0).toNat < (trm d).nx.length by omega)]
        unfold nmV
        rw [if_pos hjj]
      · intro x hx e
        obtain ⟨x1, x2⟩ := gj.1 hx
        have := (hg x _ x1 (by omega)).2 e
        rw [hid, x2] at this; omega
    · have e1 : (em d).map (fun e => et d e.1) = ((em d).map Prod.fst).map (et d) := by rw [List.map_map]; rfl
      rw [e1, hF2, List.map_map]
      refine List.map_congr_left fun s hs => ?_
      have hsl := (gj.1 hs).1
      rw [eA s hsl]
      obtain ⟨_, s0, s1⟩ := fw hd hsl
      exact (im hd s0 s1).acc.symm
  · rw [if_neg hv]
    unfold fa; rw [if_neg hv]
/-! Two minimal automata. -/
end Go.AV
namespace Go.AV
open Nat renaming reduceEqDiff → E, reduceAdd → D, reduceLeDiff → J, reduceLT → S, reduceMul → M, reduceSub → O
open List renaming set_cons_zero → ar, set_cons_succ → aq
/-plain-/
/-! On drmTh, dmeqTh. -/
def dEv : Dfa := ⟨2, 0, [[0, 1], [1, 0]], [true, false]⟩
end Go.AV
namespace Go.Proofs.Ytdkgcbhbpdbmnaa
open Go Go.AV
open Nat renaming reduceEqDiff → E, reduceAdd → D, reduceLeDiff → J, reduceLT → S, reduceMul → M, reduceSub → O
open List renaming set_cons_zero → ar, set_cons_succ → aq
set_option maxRecDepth 100000 in
theorem sl  : bH Try.prog 39 [] ((Dfa.mk 2 0 [[0, 1], [1, 0]] [true, false]).av) := by
 refine aR Try.func39 rfl (by kernel_rfl) (Nat.le_of_ble_eq_true rfl) rfl fun C hP hN hB => ?_
 replace hN : C.N = 6 := hN
 simp only [Y, D]
 refine Z fun K1 hK1 => ?_
 refine ae hP hN rfl ?_
 (refine ab rfl fun K0 V => ?_; simp only [zE, op1, ev, lkp, ai, ag, bI, reduceCtorEq, E, D, J, S, M, O, Try.st25, Try.td25, Dfa.av]; (repeat refine And.intro (by first | omega | assumption | exact rfl) ?_); (first | refine V _ ?_ | refine Or.inl (V _ ?_)); clear V K0; simp only [put, app, aa, af, zE, zS, D])
 refine ah ?_
 refine hK1 _ ?_; clear hK1; refine ad [0] ?_; simp only [U, lkp, zE, reduceCtorEq, E, Y, D]
 refine Z fun K2 hK2 => ?_
 refine ae hP hN rfl ?_
 iterate 6 (refine ab rfl fun K0 V => ?_; simp only [zE, op1, ev, lkp, ai, ag, aZ, aW, bW, rep, aM, aN, am, Ty.size, bM, aX, Nat.mul_one, acs, Ty.dflt, zG, reduceCtorEq, E, D, J, S, M, O, Try.el22, Try.el23, Try.el26, Try.st25, Try.td2, Try.td22, Try.td23, Try.td25, Try.td26, Dfa.av]; (repeat refine And.intro (by first | omega | assumption | exact rfl) ?_); (first | refine V _ ?_ | refine Or.inl (V _ ?_)); clear V K0; simp only [put, app, aa, af, zE, zS, D])
 refine ah ?_
 refine hK2 _ ?_; clear hK2; refine ad [0] ?_; simp only [U, lkp, zE, reduceCtorEq, E, Y, D]
 refine aJ ?_
 refine ⟨by first | exact .inl rfl | exact .inr rfl, _, rfl, ?_⟩; simp only [fzV, fz1, fzC, List.map_cons, List.map_nil, U, lkp, zE, reduceCtorEq, E, Y, D, Dfa.av]
 refine VLE.of_eq ?_
 rfl
end Go.Proofs.Ytdkgcbhbpdbmnaa
namespace Go.Proofs.Ytdkgcbhbpdbmnaa
open Go Go.AV
open Nat renaming reduceEqDiff → E, reduceAdd → D, reduceLeDiff → J, reduceLT → S, reduceMul → M, reduceSub → O
open List renaming set_cons_zero → ar, set_cons_succ → aq
theorem qw : bH Try.prog 39 [] dEv.av := sl

end Go.Proofs.Ytdkgcbhbpdbmnaa
namespace Go.Proofs.Ytdkgcbhbpdbmnaa
open Go Go.AV
open Nat renaming reduceEqDiff → E, reduceAdd → D, reduceLeDiff → J, reduceLT → S, reduceMul → M, reduceSub → O
open List renaming set_cons_zero → ar, set_cons_succ → aq
set_option maxRecDepth 100000 in
theorem pi (m : Mly) (q : PP) (x : Nat) (hm : MOK m) (hq : inR m.nx.length 2 q) (hx : (x : Int) < m.inp) : bH Try.prog 71 [.agg [.int .i64 q.1, .int .i64 q.2], .one (.int .i64 (x : Int)), .one (.pat (.pair (.int .i64) (.pair (.int .i64) (.pair (.list (.list (.int .i64))) (.pair (.list (.list (.int .i64))) .unit)))) (m.inp, (m.st, (m.nx, (m.ot, ())))) 0)] (.agg [.int .i64 (jl m q x).1, .int .i64 (jl m q x).2]) := by
 obtain ⟨⟨hq1, hq2⟩, hq3⟩ := id hq; have hmo := hm.ol; have hmi := hm.i2; have h1 := hm.rl q.1.toNat (by omega); have h2 := hm.ql q.1.toNat (by omega)
 refine aR Try.func71 rfl (by kernel_rfl) (Nat.le_of_ble_eq_true rfl) rfl fun C hP hN hB => ?_
 replace hN : C.N = 25 := hN
 simp only [Y, D]
 refine Z fun K1 hK1 => ?_
 refine ae hP hN rfl ?_
 iterate 2 (refine ab rfl fun K0 V => ?_; simp only [zE, op1, ev, lkp, ai, ag, ch, am, bI, reduceCtorEq, E, D, J, S, M, O, Try.ea81, Try.sa81, Try.td81]; (repeat refine And.intro (by first | omega | assumption | exact rfl) ?_); (first | refine V _ ?_ | refine Or.inl (V _ ?_)); clear V K0; simp only [put, app, aa, af, zE, zS, D])
 refine ah ?_
 refine hK1 _ ?_; clear hK1; refine ad [0, 1, 2, 3, 5] ?_; simp only [U, lkp, zE, reduceCtorEq, E, Y, D]
 refine Z fun K2 hK2 => ?_
 refine bY hP hN Try.mixed rfl ?_
 iterate 20 (refine ab rfl fun K0 V => ?_; simp only [zE, op1, ev, lkp, ai, ag, aw, ay, Nat.mul_one, au, ax, acs, Ty.dflt, zG, ao, aF, Ty.size, ne_eq, not_false_eq_true, Int.natCast_one, Int.mul_one, bM, aW, aN, am, aX, aM, reduceCtorEq, E, D, J, S, M, O, Try.ea81, Try.el22, Try.el26, Try.sa81, Try.st58, Try.td2, Try.td22, Try.td26, Try.td3, Try.td58, Try.td81]; (repeat refine And.intro (by first | omega | assumption | exact rfl) ?_); (first | refine V _ ?_ | refine Or.inl (V _ ?_)); clear V K0; simp only [put, app, aa, af, zE, zS, D])
 refine ah ?_
 refine ⟨by kernel_rfl, ?_⟩
 refine hK2 _ ?_; clear hK2; refine ad [0, 1, 2, 3, 5] ?_; simp only [U, lkp, zE, reduceCtorEq, E, Y, D]
 refine aJ ?_
 refine ⟨by first | exact .inl rfl | exact .inr rfl, _, rfl, ?_⟩; simp only [fzV, fz1, fzC, List.map_cons, List.map_nil, U, lkp, zE, reduceCtorEq, E, Y, D]
 refine VLE.of_eq ?_
 rfl
end Go.Proofs.Ytdkgcbhbpdbmnaa
namespace Go.Proofs.Ytdkgcbhbpdbmnaa
open Go Go.AV
open Nat renaming reduceEqDiff → E, reduceAdd → D, reduceLeDiff → J, reduceLT → S, reduceMul → M, reduceSub → O
open List renaming set_cons_zero → ar, set_cons_succ → aq
set_option maxRecDepth 100000 in
theorem pp (q : PP) : bH Try.prog 72 [.agg [.int .i64 q.1, .int .i64 q.2]] (.one (.bool (nL q))) := by
 refine aR Try.func72 rfl (by kernel_rfl) (Nat.le_of_ble_eq_true rfl) rfl fun C hP hN hB => ?_
 replace hN : C.N = 6 := hN
 simp only [Y, D]
 refine Z fun K1 hK1 => ?_
 refine ae hP hN rfl ?_
 iterate 2 (refine ab rfl fun K0 V => ?_; simp only [zE, op1, ev, lkp, ai, ag, ch, am, reduceCtorEq, E, D, J, S, M, O, Try.ea81, Try.sa81, Try.td4, Try.td81]; (repeat refine And.intro (by first | omega | assumption | exact rfl) ?_); refine V _ ?_; clear V K0; simp only [put, app, aa, af, zE, zS, D])
 refine ah ?_
 refine hK1 _ ?_; clear hK1; refine ad [0, 1, 2] ?_; simp only [U, lkp, zE, reduceCtorEq, E, Y, D]
 refine Z fun K2 hK2 => ?_
 refine ae hP hN rfl ?_
 iterate 4 (refine ab rfl fun K0 V => ?_; simp only [zE, op1, ev, lkp, ai, ag, aF, zG, Ty.dflt, Ty.size, Nat.mul_one, ne_eq, not_false_eq_true, Int.natCast_one, Int.mul_one, ay, au, ax, acs, ao, aC, aB, aD, ak, az, aO, reduceCtorEq, E, D, J, S, M, O, Try.ea81, Try.sa81, Try.td3, Try.td4, Try.td81]; (repeat refine And.intro (by first | omega | assumption | exact rfl) ?_); refine V _ ?_; clear V K0; simp only [put, app, aa, af, zE, zS, D])
 refine ah ?_
 refine hK2 _ ?_; clear hK2; refine ad [0, 1, 2] ?_; simp only [U, lkp, zE, reduceCtorEq, E, Y, D]
 refine aJ ?_
 refine ⟨by first | exact .inl rfl | exact .inr rfl, _, rfl, ?_⟩; simp only [fzV, fz1, fzC, List.map_cons, List.map_nil, U, lkp, zE, reduceCtorEq, E, Y, D]
 refine VLE.of_eq ?_
 rfl
end Go.Proofs.Ytdkgcbhbpdbmnaa
namespace Go.Proofs.Ytdkgcbhbpdbmnaa
open Go Go.AV
open Nat renaming reduceEqDiff → E, reduceAdd → D, reduceLeDiff → J, reduceLT → S, reduceMul → M, reduceSub → O
open List renaming set_cons_zero → ar, set_cons_succ → aq
set_option maxRecDepth 100000 in
theorem sT (xs : List Int) (h0 : 0 < xs.length) : bH Try.prog 69 [.one (.list (.int .i64) xs)] (.one (.int .i64 (mxL xs))) := by
 refine aR Try.func69 rfl (by kernel_rfl) (Nat.le_of_ble_eq_true rfl) rfl fun C hP hN hB => ?_
 replace hN : C.N = 25 := hN
 simp only [Y, D]
 refine f0 0 rfl fun hf0 => ?_; simp only [lkp, if_true, if_false, reduceCtorEq, E, eq_self, Nat.one_ne_zero, Nat.zero_ne_one, iv, gY, gT, Fit, and_true, implies_true, true_and] at hf0
 refine Z fun K1 hK1 => ?_
 refine ae hP hN rfl ?_
 (refine ab rfl fun K0 V => ?_; simp only [zE, op1, ev, lkp, ai, ag, ev, reduceCtorEq, E, D, J, S, M, O, Try.td3]; refine V _ ?_; clear V K0; simp only [put, app, aa, af, zE, zS, D])
 refine ah ?_
 refine hK1 _ ?_; clear hK1; refine ad [0, 2] ?_; simp only [U, lkp, zE, reduceCtorEq, E, Y, D]
 refine Z fun K2 hK2 => ?_
 refine Z fun K3 hK3 => ?_
 refine ae hP hN rfl ?_
 iterate 3 (refine ab rfl fun K0 V => ?_; simp only [zE, op1, ev, lkp, ai, ag, aK, br, bf, aY, b0, bn, Nat.div_one, aP, ba, Ty.size, aM, dite_true, aC, aB, aD, ak, az, aO, reduceCtorEq, E, D, J, S, M, O, Try.el26, Try.td26, Try.td3, Try.td4]; (repeat refine And.intro (by first | omega | assumption | exact rfl) ?_); (first | refine V _ ?_ | refine Or.inl (V _ ?_)); clear V K0; simp only [put, app, aa, af, zE, zS, D])
 refine ah ?_
 refine hK3 _ ?_; clear hK3; refine ad [0, 2, 7] ?_; simp only [U, lkp, zE, reduceCtorEq, E, Y, D]
 refine aA (by simp only [ev, U, lkp, zE, reduceCtorEq, E, Y, D]; exact rfl) (fun hc4 => ?_) (fun hc4 => ?_)
 · exfalso; (try simp only [zB, reduceCtorEq] at hc4); all_goals (first | (cases hc4; done) | omega | (simp at hc4; done) | (simp_all; done))
 ·(try simp only [zB, reduceCtorEq] at hc4)
  refine aI ?_
  refine hK2 _ ?_; clear hK2; refine ad [0, 2, 7] ?_; simp only [U, lkp, zE, reduceCtorEq, E, Y, D]
  refine Z fun K5 hK5 => ?_
  refine ae hP hN rfl ?_
  iterate 4 (refine ab rfl fun K0 V => ?_; simp only [zE, op1, ev, lkp, ai, ag, aF, zG, Ty.dflt, Ty.size, Nat.mul_one, ne_eq, not_false_eq_true, Int.natCast_one, Int.mul_one, ay, au, ax, acs, ao, reduceCtorEq, E, D, J, S, M, O, Try.el26, Try.td26, Try.td3]; (repeat refine And.intro (by first | omega | assumption | exact rfl) ?_); refine V _ ?_; clear V K0; simp only [put, app, aa, af, zE, zS, D])
  refine ah ?_
  refine hK5 _ ?_; clear hK5; refine ad [0, 2, 3, 7] ?_; simp only [U, lkp, zE, reduceCtorEq, E, Y, D]
  refine Z fun K6 hK6 => ?_
  refine Z fun K7 hK7 => ?_
  refine ae hP hN rfl ?_
  (refine ab rfl fun K0 V => ?_; simp only [zE, op1, ev, lkp, ai, ag, ev, reduceCtorEq, E, D, J, S, M, O, Try.td3]; refine V _ ?_; clear V K0; simp only [put, app, aa, af, zE, zS, D])
  refine ah ?_
  refine hK7 _ ?_; clear hK7; refine ad [0, 2, 3, 4, 7] ?_; simp only [U, lkp, zE, reduceCtorEq, E, Y, D]
  refine aH ?_
  refine bj (fun n8 s8 => ∃ (k : Nat), (1 ≤ k) ∧ (k ≤ xs.length) ∧ n8 = xs.length - k ∧ s8 = { env := [(0, .one (.list (.int .i64) xs)), (3, .one (.int .i64 ((xs.take k).foldl max (xs.getD 0 0)))), (4, .one (.int .i64 (k : Int)))], L := [] }) ?_ ?_
  ·refine ⟨_, _, aE [0, 3, 4], 1, Nat.le_refl _, h0, rfl, ?_⟩
   rw [th h0]; rfl
  ·rintro n8 s8 ⟨k, hk1, hk, rfl, rfl⟩
   refine Z fun K9 hK9 => ?_
   refine Z fun K10 hK10 => ?_
   refine ae hP hN rfl ?_
   iterate 4 (refine ab rfl fun K0 V => ?_; simp only [zE, op1, ev, lkp, ai, ag, aK, br, bf, aY, b0, bn, Nat.div_one, aP, ba, Ty.size, aM, dite_true, aC, aB, aD, ak, az, aO, reduceCtorEq, E, D, J, S, M, O, Try.el26, Try.td26, Try.td3, Try.td4]; (repeat refine And.intro (by first | omega | assumption | exact rfl) ?_); (first | refine V _ ?_ | refine Or.inl (V _ ?_)); clear V K0; simp only [put, app, aa, af, zE, zS, D])
   refine ah ?_
   refine hK10 _ ?_; clear hK10; refine ad [0, 3, 4, 15] ?_; simp only [U, lkp, zE, reduceCtorEq, E, Y, D]
   refine aA (by simp only [ev, U, lkp, zE, reduceCtorEq, E, Y, D]; exact rfl) (fun hc11 => ?_) (fun hc11 => ?_)
   ·(try simp only [zB, reduceCtorEq] at hc11)
    refine aI ?_
    refine hK9 _ ?_; clear hK9; refine ad [0, 3, 4, 15] ?_; simp only [U, lkp, zE, reduceCtorEq, E, Y, D]
    refine Z fun K12 hK12 => ?_
    refine aH ?_
    refine ae hP hN rfl ?_
    iterate 7 (refine ab rfl fun K0 V => ?_; simp only [zE, op1, ev, lkp, ai, ag, aF, zG, Ty.dflt, Ty.size, Nat.mul_one, ne_eq, not_false_eq_true, Int.natCast_one, Int.mul_one, ay, au, ax, acs, ao, aK, br, bf, aY, b0, bn, Nat.div_one, aP, ba, aM, dite_true, reduceCtorEq, E, D, J, S, M, O, Try.el26, Try.td26, Try.td3]; (repeat refine And.intro (by first | omega | assumption | exact rfl) ?_); (first | refine V _ ?_ | refine Or.inl (V _ ?_)); clear V K0; simp only [put, app, aa, af, zE, zS, D])
    refine ah ?_
    refine hK12 _ ?_; clear hK12; refine ad [0, 3, 4, 15] ?_; simp only [U, lkp, zE, reduceCtorEq, E, Y, D]
    refine ae hP hN rfl ?_
    iterate 3 (refine ab rfl fun K0 V => ?_; simp only [zE, op1, ev, lkp, ai, ag, aC, aB, aD, ak, az, aO, reduceCtorEq, E, D, J, S, M, O, Try.td3]; (repeat refine And.intro (by first | omega | assumption | exact rfl) ?_); refine V _ ?_; clear V K0; simp only [put, app, aa, af, zE, zS, D])
    refine ah ?_
    refine ⟨_, _, ?_, aE [0, 3, 4], k + 1, by omega, by omega, rfl, ?_⟩
    · omega
    · rw [mv (by omega), List.foldl_append]; rfl
   ·(try simp only [zB, reduceCtorEq] at hc11)
    refine bg ?_
    refine hK6 _ ?_; clear hK6; refine ad [0, 3, 4, 15] ?_; simp only [U, lkp, zE, reduceCtorEq, E, Y, D]
    refine Z fun K13 hK13 => ?_
    refine ae hP hN rfl ?_
    iterate 2 (refine ab rfl fun K0 V => ?_; simp only [zE, op1, ev, lkp, ai, ag, ev, reduceCtorEq, E, D, J, S, M, O, Try.td3]; refine V _ ?_; clear V K0; simp only [put, app, aa, af, zE, zS, D])
    refine ah ?_
    refine hK13 _ ?_; clear hK13; refine ad [0, 2, 3, 4, 15] ?_; simp only [U, lkp, zE, reduceCtorEq, E, Y, D]
    refine aJ ?_
    refine ⟨by first | exact .inl rfl | exact .inr rfl, _, rfl, ?_⟩; simp only [fzV, fz1, fzC, List.map_cons, List.map_nil, U, lkp, zE, reduceCtorEq, E, Y, D]
    refine VLE.of_eq ?_
    refine congrArg (fun n => AV.one (AC.int IntKind.i64 n)) ?_
    rw [show k = xs.length by omega, List.take_length]; rfl
end Go.Proofs.Ytdkgcbhbpdbmnaa
namespace Go.Proofs.Ytdkgcbhbpdbmnaa
open Go Go.AV
open Nat renaming reduceEqDiff → E, reduceAdd → D, reduceLeDiff → J, reduceLT → S, reduceMul → M, reduceSub → O
open List renaming set_cons_zero → ar, set_cons_succ → aq
open Go.Shelf in
def Try.laysNm220_ren : Go.Shelf.Ren := ⟨fun | 20 => 84 | n => n, fun | 22 => 26 | 3 => 3 | 4 => 4 | 0 => 0 | n => n, fun | n => n⟩
theorem Try.laysNm220 : Go.Proofs.Lays2.n20 Try.prog Try.laysNm220_ren := {
  mixed := by kernel_rfl,
  f20 := Try.func84.trans (congrArg some (by kernel_rfl)),
  t0 := Try.underlying0,
  a0 := Try.isAgg0,
  z0 := Try.sizeOf0,
  v0 := Try.zeroValue0,
  t3 := Try.underlying3,
  a3 := Try.isAgg3,
  z3 := Try.sizeOf3,
  v3 := Try.zeroValue3,
  t4 := Try.underlying4,
  a4 := Try.isAgg4,
  z4 := Try.sizeOf4,
  v4 := Try.zeroValue4,
  t22 := Try.underlying26,
  a22 := Try.isAgg26,
  z22 := Try.sizeOf26,
  v22 := Try.zeroValue26,
  i3 := by kernel_rfl }
theorem nM : m9 Try.prog 84 := ⟨⟨Try.f84, Try.func84, by kernel_rfl, by kernel_rfl⟩, fun blk off cap zs w hH hb hz => Any.slices_Compact_int Try.laysNm220 blk off cap zs w hH hb hz⟩
end Go.Proofs.Ytdkgcbhbpdbmnaa
namespace Go.Proofs.Ytdkgcbhbpdbmnaa
open Go Go.AV
open Nat renaming reduceEqDiff → E, reduceAdd → D, reduceLeDiff → J, reduceLT → S, reduceMul → M, reduceSub → O
open List renaming set_cons_zero → ar, set_cons_succ → aq
open Go.Shelf in
def Try.lays189_ren : Go.Shelf.Ren := ⟨fun | 189 => 83 | 125 => 94 | 257 => 93 | 128 => 105 | 129 => 106 | 294 => 96 | 295 => 97 | 296 => 98 | 297 => 99 | 298 => 100 | 299 => 101 | 216 => 102 | 300 => 103 | 301 => 104 | 328 => 107 | 329 => 108 | 330 => 109 | 331 => 110 | 332 => 111 | 215 => 112 | 343 => 113 | n => n, fun | 28 => 26 | 3 => 3 | 46 => 124 | 0 => 0 | 51 => 135 | 53 => 137 | 4 => 4 | 183 => 128 | 182 => 127 | 131 => 111 | 5 => 5 | 9 => 9 | 218 => 138 | 222 => 142 | 228 => 144 | 229 => 54 | n => n, fun | n => n⟩
theorem Try.lays189 : Go.Proofs.Lays.n189 Try.prog Try.lays189_ren := {
  mixed := by kernel_rfl,
  f125 := Try.func94.trans (congrArg some (by kernel_rfl)),
  f128 := Try.func105.trans (congrArg some (by kernel_rfl)),
  f129 := Try.func106.trans (congrArg some (by kernel_rfl)),
  f189 := Try.func83.trans (congrArg some (by kernel_rfl)),
  f215 := Try.func112.trans (congrArg some (by kernel_rfl)),
  f216 := Try.func102.trans (congrArg some (by kernel_rfl)),
  f257 := Try.func93.trans (congrArg some (by kernel_rfl)),
  f294 := Try.func96.trans (congrArg some (by kernel_rfl)),
  f295 := Try.func97.trans (congrArg some (by kernel_rfl)),
  f296 := Try.func98.trans (congrArg some (by kernel_rfl)),
  f297 := Try.func99.trans (congrArg some (by kernel_rfl)),
  f298 := Try.func100.trans (congrArg some (by kernel_rfl)),
  f299 := Try.func101.trans (congrArg some (by kernel_rfl)),
  f300 := Try.func103.trans (congrArg some (by kernel_rfl)),
  f301 := Try.func104.trans (congrArg some (by kernel_rfl)),
  f328 := Try.func107.trans (congrArg some (by kernel_rfl)),
  f329 := Try.func108.trans (congrArg some (by kernel_rfl)),
  f330 := Try.func109.trans (congrArg some (by kernel_rfl)),
  f331 := Try.func110.trans (congrArg some (by kernel_rfl)),
  f332 := Try.func111.trans (congrArg some (by kernel_rfl)),
  f343 := Try.func113.trans (congrArg some (by kernel_rfl)),
  t0 := Try.underlying0,
  a0 := Try.isAgg0,
  z0 := Try.sizeOf0,
  v0 := Try.zeroValue0,
  t3 := Try.underlying3,
  a3 := Try.isAgg3,
  z3 := Try.sizeOf3,
  v3 := Try.zeroValue3,
  t4 := Try.underlying4,
  a4 := Try.isAgg4,
  z4 := Try.sizeOf4,
  v4 := Try.zeroValue4,
  t5 := Try.underlying5,
  a5 := Try.isAgg5,
  z5 := Try.sizeOf5,
  v5 := Try.zeroValue5,
  t9 := Try.underlying9,
  a9 := Try.isAgg9,
  z9 := Try.sizeOf9,
  v9 := Try.zeroValue9,
  t28 := Try.underlying26,
  a28 := Try.isAgg26,
  z28 := Try.sizeOf26,
  v28 := Try.zeroValue26,
  t46 := Try.underlying124,
  a46 := Try.isAgg124,
  z46 := Try.sizeOf124,
  v46 := Try.zeroValue124,
  t51 := Try.underlying135,
  a51 := Try.isAgg135,
  z51 := Try.sizeOf135,
  v51 := Try.zeroValue135,
  t53 := Try.underlying137,
  a53 := Try.isAgg137,
  z53 := Try.sizeOf137,
  v53 := Try.zeroValue137,
  t131 := Try.underlying111,
  a131 := Try.isAgg111,
  z131 := Try.sizeOf111,
  v131 := Try.zeroValue111,
  t182 := Try.underlying127,
  a182 := Try.isAgg127,
  z182 := Try.sizeOf127,
  v182 := Try.zeroValue127,
  t183 := Try.underlying128,
  a183 := Try.isAgg128,
  z183 := Try.sizeOf128,
  v183 := Try.zeroValue128,
  t218 := Try.underlying138,
  a218 := Try.isAgg138,
  z218 := Try.sizeOf138,
  v218 := Try.zeroValue138,
  t222 := Try.underlying142,
  a222 := Try.isAgg142,
  z222 := Try.sizeOf142,
  v222 := Try.zeroValue142,
  t228 := Try.underlying144,
  a228 := Try.isAgg144,
  z228 := Try.sizeOf144,
  v228 := Try.zeroValue144,
  t229 := Try.underlying54,
  a229 := Try.isAgg54,
  z229 := Try.sizeOf54,
  v229 := Try.zeroValue54 }
theorem rG : rT Try.prog 83 := ⟨⟨Try.f83, Try.func83, by kernel_rfl, by kernel_rfl⟩, fun blk off cap zs w hH hb hz => Any.slices_Sort_int Try.lays189 blk off cap zs w hH hb hz⟩
end Go.Proofs.Ytdkgcbhbpdbmnaa
namespace Go.Proofs.Ytdkgcbhbpdbmnaa
open Go Go.AV
open Nat renaming reduceEqDiff → E, reduceAdd → D, reduceLeDiff → J, reduceLT → S, reduceMul → M, reduceSub → O
open List renaming set_cons_zero → ar, set_cons_succ → aq
set_option maxRecDepth 100000 in
theorem mW (m : Mly) : bH Try.prog 68 [m.av] (.one (.int .i64 (cv m))) := by
 refine aR Try.func68 rfl (by kernel_rfl) (Nat.le_of_ble_eq_true rfl) rfl fun C hP hN hB => ?_
 replace hN : C.N = 104 := hN
 simp only [Y, D]
 refine Z fun K1 hK1 => ?_
 refine ae hP hN rfl ?_
 iterate 2 (refine ab rfl fun K0 V => ?_; simp only [zE, op1, ev, lkp, ai, ag, ch, am, reduceCtorEq, E, D, J, S, M, O, Try.st58, Try.td29, Try.td58, Mly.av]; (repeat refine And.intro (by first | omega | assumption | exact rfl) ?_); refine V _ ?_; clear V K0; simp only [put, app, aa, af, zE, zS, D])
 refine ah ?_
 refine hK1 _ ?_; clear hK1; refine ad [0, 1, 2] ?_; simp only [U, lkp, zE, reduceCtorEq, E, Y, D]
 refine Z fun K2 hK2 => ?_
 refine ae hP hN rfl ?_
 iterate 4 (refine ab rfl fun K0 V => ?_; simp only [zE, op1, ev, lkp, ai, ag, aw, ay, Nat.mul_one, au, ax, acs, Ty.dflt, zG, ao, aK, br, bf, aY, b0, bn, Nat.div_one, aP, ba, Ty.size, aM, dite_true, reduceCtorEq, E, D, J, S, M, O, Try.el22, Try.st58, Try.td2, Try.td22, Try.td3, Try.td58, Mly.av]; (repeat refine And.intro (by first | omega | assumption | exact rfl) ?_); (first | refine V _ ?_ | refine Or.inl (V _ ?_)); clear V K0; simp only [put, app, aa, af, zE, zS, D])
 refine ah ?_
 refine hK2 _ ?_; clear hK2; refine ad [0, 1, 2, 3] ?_; simp only [U, lkp, zE, reduceCtorEq, E, Y, D]
 refine Z fun K3 hK3 => ?_
 refine aH ?_
 refine Z fun K4 hK4 => ?_
 refine ae hP hN rfl ?_
 iterate 3 (refine ab rfl fun K0 V => ?_; simp only [zE, op1, ev, lkp, ai, ag, aw, ay, Nat.mul_one, au, ax, acs, Ty.dflt, zG, ao, aC, aB, aD, ak, az, aO, reduceCtorEq, E, D, J, S, M, O, Try.st58, Try.td3, Try.td4, Try.td58, Mly.av]; (repeat refine And.intro (by first | omega | assumption | exact rfl) ?_); refine V _ ?_; clear V K0; simp only [put, app, aa, af, zE, zS, D])
 (refine ab rfl fun K0 V => ?_; simp only [zE, op1, ev, lkp, ai, ag, ev, reduceCtorEq, E, D, J, S, M, O, Try.td4, Mly.av]; refine V _ ?_; clear V K0; simp only [put, app, aa, af, zE, zS, D])
 refine' aU (want := false) 3 rfl (m := 15) (by simp only [U, lkp, zE, reduceCtorEq, E, Y, D]; exact rfl) (by kernel_rfl) rfl rfl rfl rfl rfl (fun hg5 => ?a5) ?b5 ?c5
 case a5 =>
  have hq5 := hg5; (try simp only [zB, reduceCtorEq] at hg5); simp only [List.take_succ_cons, List.take_zero, List.cons_append, List.nil_append]
  (refine aL rfl fun K0 V => ?_; simp only [zE, op1, ev, lkp, ai, ag, aw, reduceCtorEq, E, D, J, S, M, O, Try.st58, Try.td58, Mly.av]; (repeat refine And.intro (by first | omega | assumption | exact rfl) ?_); refine V _ ?_; clear V K0; simp only [put, app, aa, af, zE, zS, D])
  (refine aL rfl fun K0 V => ?_; simp only [zE, op1, ev, lkp, ai, ag, ay, Nat.mul_one, au, ax, acs, Ty.dflt, zG, ao, reduceCtorEq, E, D, J, S, M, O, Try.td3, Mly.av]; (repeat refine And.intro (by first | omega | assumption | exact rfl) ?_); refine V _ ?_; clear V K0; simp only [put, app, aa, af, zE, zS, D])
  (refine aL rfl fun K0 V => ?_; simp only [zE, op1, ev, lkp, ai, ag, aC, aB, aD, ak, az, aO, reduceCtorEq, E, D, J, S, M, O, Try.td3, Try.td4, Mly.av]; (repeat refine And.intro (by first | omega | assumption | exact rfl) ?_); refine V _ ?_; clear V K0; simp only [put, app, aa, af, zE, zS, D])
  (refine ab rfl fun K0 V => ?_; simp only [zE, op1, ev, lkp, ai, ag, bq, reduceCtorEq, E, D, J, S, M, O, Try.td4, Mly.av]; refine V _ ?_; clear V K0; simp only [put, app, aa, af, zE, zS, D])
  refine ah ?_
  refine ⟨by simp only [U, lkp, zE, reduceCtorEq, E, Y, D]; exact rfl, rfl, ?_, rfl⟩; (repeat refine aV rfl ?_); exact bu (by exact rfl) hq5
 case b5 => exact bt (by first | rfl | (simp [c0]; done) | decide)
 simp only [bm, bb]
 (refine ab rfl fun K0 V => ?_; simp only [zE, op1, ev, lkp, ai, ag, ev, reduceCtorEq, E, D, J, S, M, O, Try.td4, Mly.av]; refine V _ ?_; clear V K0; simp only [put, app, aa, af, zE, zS, D])
 refine ah ?_
 refine hK4 _ ?_; clear hK4; refine ad [0, 1, 2, 3, 11] ?_; simp only [U, lkp, zE, reduceCtorEq, E, Y, D]
 refine aA (by simp only [ev, U, lkp, zE, reduceCtorEq, E, Y, D]; exact rfl) (fun hc6 => ?_) (fun hc6 => ?_)
 ·(try simp only [zB, reduceCtorEq] at hc6)
  refine Z fun K7 hK7 => ?_
  refine ae hP hN rfl ?_
  (refine ab rfl fun K0 V => ?_; simp only [zE, op1, ev, lkp, ai, ag, ev, reduceCtorEq, E, D, J, S, M, O, Try.td29, Mly.av]; refine V _ ?_; clear V K0; simp only [put, app, aa, af, zE, zS, D])
  refine ah ?_
  refine hK7 _ ?_; clear hK7; refine ad [0, 1, 2, 3, 11] ?_; simp only [U, lkp, zE, reduceCtorEq, E, Y, D]
  refine aJ ?_
  refine ⟨by first | exact .inl rfl | exact .inr rfl, _, rfl, ?_⟩; simp only [fzV, fz1, fzC, List.map_cons, List.map_nil, U, lkp, zE, reduceCtorEq, E, Y, D, Mly.av]
  refine VLE.of_eq ?_
  refine congrArg (fun n => AV.one (AC.int IntKind.i64 n)) ?_
  symm
  unfold cv
  first
  | (rw [if_pos (by omega)]; done)
  | (rw [if_neg (by omega), if_pos (by omega)]; done)
  | (rw [if_neg (by omega), if_neg (by omega), if_pos (by omega)]; done)
  | (rw [if_neg (by omega), if_neg (by omega), if_neg (by omega), if_pos (by omega)]; done)
  | (rw [if_neg (by omega), if_neg (by omega), if_neg (by omega), if_neg (by omega), if_pos (by omega)]; done)
  | (rw [if_neg (by omega), if_neg (by omega), if_neg (by omega), if_neg (by omega), if_neg (by omega)]
     first
     | exact (aT hrows (by omega) (by rw [cB hc32.1 hc32.2 (j := j) (by omega) (by unfold cd; omega)]; decide)).trans (cB hc32.1 hc32.2 (by omega) (by unfold cd; omega))
     | exact (aT hrows (by omega) (by rw [cA hc32]; decide)).trans (cA hc32)
     | exact bE fun i hi => hrows i (by omega))
 ·(try simp only [zB, reduceCtorEq] at hc6)
  refine Z fun K8 hK8 => ?_
  refine ae hP hN rfl ?_
  iterate 3 (refine ab rfl fun K0 V => ?_; simp only [zE, op1, ev, lkp, ai, ag, aC, aB, aD, ak, az, aO, reduceCtorEq, E, D, J, S, M, O, Try.td3, Try.td4, Mly.av]; (repeat refine And.intro (by first | omega | assumption | exact rfl) ?_); refine V _ ?_; clear V K0; simp only [put, app, aa, af, zE, zS, D])
  refine ah ?_
  refine hK8 _ ?_; clear hK8; refine ad [0, 1, 2, 3, 11, 20] ?_; simp only [U, lkp, zE, reduceCtorEq, E, Y, D]
  refine aA (by simp only [ev, U, lkp, zE, reduceCtorEq, E, Y, D]; exact rfl) (fun hc9 => ?_) (fun hc9 => ?_)
  ·(try simp only [zB, reduceCtorEq] at hc9)
   refine Z fun K10 hK10 => ?_
   refine ae hP hN rfl ?_
   (refine ab rfl fun K0 V => ?_; simp only [zE, op1, ev, lkp, ai, ag, ev, reduceCtorEq, E, D, J, S, M, O, Try.td29, Mly.av]; refine V _ ?_; clear V K0; simp only [put, app, aa, af, zE, zS, D])
   refine ah ?_
   refine hK10 _ ?_; clear hK10; refine ad [0, 1, 2, 3, 11, 20] ?_; simp only [U, lkp, zE, reduceCtorEq, E, Y, D]
   refine aJ ?_
   refine ⟨by first | exact .inl rfl | exact .inr rfl, _, rfl, ?_⟩; simp only [fzV, fz1, fzC, List.map_cons, List.map_nil, U, lkp, zE, reduceCtorEq, E, Y, D, Mly.av]
   refine VLE.of_eq ?_
   refine congrArg (fun n => AV.one (AC.int IntKind.i64 n)) ?_
   symm
   unfold cv
   first
   | (rw [if_pos (by omega)]; done)
   | (rw [if_neg (by omega), if_pos (by omega)]; done)
   | (rw [if_neg (by omega), if_neg (by omega), if_pos (by omega)]; done)
   | (rw [if_neg (by omega), if_neg (by omega), if_neg (by omega), if_pos (by omega)]; done)
   | (rw [if_neg (by omega), if_neg (by omega), if_neg (by omega), if_neg (by omega), if_pos (by omega)]; done)
   | (rw [if_neg (by omega), if_neg (by omega), if_neg (by omega), if_neg (by omega), if_neg (by omega)]
      first
      | exact (aT hrows (by omega) (by rw [cB hc32.1 hc32.2 (j := j) (by omega) (by unfold cd; omega)]; decide)).trans (cB hc32.1 hc32.2 (by omega) (by unfold cd; omega))
      | exact (aT hrows (by omega) (by rw [cA hc32]; decide)).trans (cA hc32)
      | exact bE fun i hi => hrows i (by omega))
  ·(try simp only [zB, reduceCtorEq] at hc9)
   refine Z fun K11 hK11 => ?_
   refine ae hP hN rfl ?_
   iterate 3 (refine ab rfl fun K0 V => ?_; simp only [zE, op1, ev, lkp, ai, ag, aC, aB, aD, ak, az, aO, reduceCtorEq, E, D, J, S, M, O, Try.td3, Try.td4, Mly.av]; (repeat refine And.intro (by first | omega | assumption | exact rfl) ?_); refine V _ ?_; clear V K0; simp only [put, app, aa, af, zE, zS, D])
   refine ah ?_
   refine hK11 _ ?_; clear hK11; refine ad [0, 1, 2, 3, 11, 20, 23] ?_; simp only [U, lkp, zE, reduceCtorEq, E, Y, D]
   refine aA (by simp only [ev, U, lkp, zE, reduceCtorEq, E, Y, D]; exact rfl) (fun hc12 => ?_) (fun hc12 => ?_)
   ·(try simp only [zB, reduceCtorEq] at hc12)
    refine Z fun K13 hK13 => ?_
    refine ae hP hN rfl ?_
    (refine ab rfl fun K0 V => ?_; simp only [zE, op1, ev, lkp, ai, ag, ev, reduceCtorEq, E, D, J, S, M, O, Try.td29, Mly.av]; refine V _ ?_; clear V K0; simp only [put, app, aa, af, zE, zS, D])
    refine ah ?_
    refine hK13 _ ?_; clear hK13; refine ad [0, 1, 2, 3, 11, 20, 23] ?_; simp only [U, lkp, zE, reduceCtorEq, E, Y, D]
    refine aJ ?_
    refine ⟨by first | exact .inl rfl | exact .inr rfl, _, rfl, ?_⟩; simp only [fzV, fz1, fzC, List.map_cons, List.map_nil, U, lkp, zE, reduceCtorEq, E, Y, D, Mly.av]
    refine VLE.of_eq ?_
    refine congrArg (fun n => AV.one (AC.int IntKind.i64 n)) ?_
    symm
    unfold cv
    first
    | (rw [if_pos (by omega)]; done)
    | (rw [if_neg (by omega), if_pos (by omega)]; done)
    | (rw [if_neg (by omega), if_neg (by omega), if_pos (by omega)]; done)
    | (rw [if_neg (by omega), if_neg (by omega), if_neg (by omega), if_pos (by omega)]; done)
    | (rw [if_neg (by omega), if_neg (by omega), if_neg (by omega), if_neg (by omega), if_pos (by omega)]; done)
    | (rw [if_neg (by omega), if_neg (by omega), if_neg (by omega), if_neg (by omega), if_neg (by omega)]
       first
       | exact (aT hrows (by omega) (by rw [cB hc32.1 hc32.2 (j := j) (by omega) (by unfold cd; omega)]; decide)).trans (cB hc32.1 hc32.2 (by omega) (by unfold cd; omega))
       | exact (aT hrows (by omega) (by rw [cA hc32]; decide)).trans (cA hc32)
       | exact bE fun i hi => hrows i (by omega))
   ·(try simp only [zB, reduceCtorEq] at hc12)
    refine Z fun K14 hK14 => ?_
    refine ae hP hN rfl ?_
    iterate 3 (refine ab rfl fun K0 V => ?_; simp only [zE, op1, ev, lkp, ai, ag, aw, ay, Nat.mul_one, au, ax, acs, Ty.dflt, zG, ao, aC, aB, aD, ak, az, aO, reduceCtorEq, E, D, J, S, M, O, Try.st58, Try.td1, Try.td3, Try.td4, Try.td58, Mly.av]; (repeat refine And.intro (by first | omega | assumption | exact rfl) ?_); refine V _ ?_; clear V K0; simp only [put, app, aa, af, zE, zS, D])
    (refine ab rfl fun K0 V => ?_; simp only [zE, op1, ev, lkp, ai, ag, ev, reduceCtorEq, E, D, J, S, M, O, Try.td4, Mly.av]; refine V _ ?_; clear V K0; simp only [put, app, aa, af, zE, zS, D])
    refine' aU (want := false) 4 rfl (m := 30) (by simp only [U, lkp, zE, reduceCtorEq, E, Y, D]; exact rfl) (by kernel_rfl) rfl rfl rfl rfl rfl (fun hg15 => ?a15) ?b15 ?c15
    case a15 =>
     have hq15 := hg15; (try simp only [zB, reduceCtorEq] at hg15); simp only [List.take_succ_cons, List.take_zero, List.cons_append, List.nil_append]
     (refine aL rfl fun K0 V => ?_; simp only [zE, op1, ev, lkp, ai, ag, aw, reduceCtorEq, E, D, J, S, M, O, Try.st58, Try.td1, Try.td58, Mly.av]; (repeat refine And.intro (by first | omega | assumption | exact rfl) ?_); refine V _ ?_; clear V K0; simp only [put, app, aa, af, zE, zS, D])
     (refine aL rfl fun K0 V => ?_; simp only [zE, op1, ev, lkp, ai, ag, ay, Nat.mul_one, au, ax, acs, Ty.dflt, zG, ao, reduceCtorEq, E, D, J, S, M, O, Try.td3, Mly.av]; (repeat refine And.intro (by first | omega | assumption | exact rfl) ?_); refine V _ ?_; clear V K0; simp only [put, app, aa, af, zE, zS, D])
     (refine aL rfl fun K0 V => ?_; simp only [zE, op1, ev, lkp, ai, ag, ev, reduceCtorEq, E, D, J, S, M, O, Try.td3, Mly.av]; refine V _ ?_; clear V K0; simp only [put, app, aa, af, zE, zS, D])
     (refine aL rfl fun K0 V => ?_; simp only [zE, op1, ev, lkp, ai, ag, aC, aB, aD, ak, az, aO, reduceCtorEq, E, D, J, S, M, O, Try.td3, Try.td4, Mly.av]; (repeat refine And.intro (by first | omega | assumption | exact rfl) ?_); refine V _ ?_; clear V K0; simp only [put, app, aa, af, zE, zS, D])
     (refine ab rfl fun K0 V => ?_; simp only [zE, op1, ev, lkp, ai, ag, bq, reduceCtorEq, E, D, J, S, M, O, Try.td4, Mly.av]; refine V _ ?_; clear V K0; simp only [put, app, aa, af, zE, zS, D])
     refine ah ?_
     refine ⟨by simp only [U, lkp, zE, reduceCtorEq, E, Y, D]; exact rfl, rfl, ?_, rfl⟩; (repeat refine aV rfl ?_); exact bu (by exact rfl) hq15
    case b15 => exact bt (by first | rfl | (simp [c0]; done) | decide)
    simp only [bm, bb]
    (refine ab rfl fun K0 V => ?_; simp only [zE, op1, ev, lkp, ai, ag, ev, reduceCtorEq, E, D, J, S, M, O, Try.td4, Mly.av]; refine V _ ?_; clear V K0; simp only [put, app, aa, af, zE, zS, D])
    refine ah ?_
    refine hK14 _ ?_; clear hK14; refine ad [0, 1, 2, 3, 11, 20, 23, 26] ?_; simp only [U, lkp, zE, reduceCtorEq, E, Y, D]
    refine aA (by simp only [ev, U, lkp, zE, reduceCtorEq, E, Y, D]; exact rfl) (fun hc16 => ?_) (fun hc16 => ?_)
    ·(try simp only [zB, reduceCtorEq] at hc16)
     refine Z fun K17 hK17 => ?_
     refine ae hP hN rfl ?_
     (refine ab rfl fun K0 V => ?_; simp only [zE, op1, ev, lkp, ai, ag, ev, reduceCtorEq, E, D, J, S, M, O, Try.td29, Mly.av]; refine V _ ?_; clear V K0; simp only [put, app, aa, af, zE, zS, D])
     refine ah ?_
     refine hK17 _ ?_; clear hK17; refine ad [0, 1, 2, 3, 11, 20, 23, 26] ?_; simp only [U, lkp, zE, reduceCtorEq, E, Y, D]
     refine aJ ?_
     refine ⟨by first | exact .inl rfl | exact .inr rfl, _, rfl, ?_⟩; simp only [fzV, fz1, fzC, List.map_cons, List.map_nil, U, lkp, zE, reduceCtorEq, E, Y, D, Mly.av]
     refine VLE.of_eq ?_
     refine congrArg (fun n => AV.one (AC.int IntKind.i64 n)) ?_
     symm
     unfold cv
     first
     | (rw [if_pos (by omega)]; done)
     | (rw [if_neg (by omega), if_pos (by omega)]; done)
     | (rw [if_neg (by omega), if_neg (by omega), if_pos (by omega)]; done)
     | (rw [if_neg (by omega), if_neg (by omega), if_neg (by omega), if_pos (by omega)]; done)
     | (rw [if_neg (by omega), if_neg (by omega), if_neg (by omega), if_neg (by omega), if_pos (by omega)]; done)
     | (rw [if_neg (by omega), if_neg (by omega), if_neg (by omega), if_neg (by omega), if_neg (by omega)]
        first
        | exact (aT hrows (by omega) (by rw [cB hc32.1 hc32.2 (j := j) (by omega) (by unfold cd; omega)]; decide)).trans (cB hc32.1 hc32.2 (by omega) (by unfold cd; omega))
        | exact (aT hrows (by omega) (by rw [cA hc32]; decide)).trans (cA hc32)
        | exact bE fun i hi => hrows i (by omega))
    ·(try simp only [zB, reduceCtorEq] at hc16)
     refine Z fun K18 hK18 => ?_
     refine ae hP hN rfl ?_
     iterate 6 (refine ab rfl fun K0 V => ?_; simp only [zE, op1, ev, lkp, ai, ag, aw, ay, Nat.mul_one, au, ax, acs, Ty.dflt, zG, ao, aK, br, bf, aY, b0, bn, Nat.div_one, aP, ba, Ty.size, aM, dite_true, aC, aB, aD, ak, az, aO, reduceCtorEq, E, D, J, S, M, O, Try.el22, Try.st58, Try.td22, Try.td3, Try.td4, Try.td58, Mly.av]; (repeat refine And.intro (by first | omega | assumption | exact rfl) ?_); (first | refine V _ ?_ | refine Or.inl (V _ ?_)); clear V K0; simp only [put, app, aa, af, zE, zS, D])
     refine ah ?_
     refine hK18 _ ?_; clear hK18; refine ad [0, 1, 2, 3, 11, 20, 23, 26, 36] ?_; simp only [U, lkp, zE, reduceCtorEq, E, Y, D]
     refine aA (by simp only [ev, U, lkp, zE, reduceCtorEq, E, Y, D]; exact rfl) (fun hc19 => ?_) (fun hc19 => ?_)
     ·(try simp only [zB, reduceCtorEq] at hc19)
      refine Z fun K20 hK20 => ?_
      refine ae hP hN rfl ?_
      (refine ab rfl fun K0 V => ?_; simp only [zE, op1, ev, lkp, ai, ag, ev, reduceCtorEq, E, D, J, S, M, O, Try.td29, Mly.av]; refine V _ ?_; clear V K0; simp only [put, app, aa, af, zE, zS, D])
      refine ah ?_
      refine hK20 _ ?_; clear hK20; refine ad [0, 1, 2, 3, 11, 20, 23, 26, 36] ?_; simp only [U, lkp, zE, reduceCtorEq, E, Y, D]
      refine aJ ?_
      refine ⟨by first | exact .inl rfl | exact .inr rfl, _, rfl, ?_⟩; simp only [fzV, fz1, fzC, List.map_cons, List.map_nil, U, lkp, zE, reduceCtorEq, E, Y, D, Mly.av]
      refine VLE.of_eq ?_
      refine congrArg (fun n => AV.one (AC.int IntKind.i64 n)) ?_
      symm
      unfold cv
      first
      | (rw [if_pos (by omega)]; done)
      | (rw [if_neg (by omega), if_pos (by omega)]; done)
      | (rw [if_neg (by omega), if_neg (by omega), if_pos (by omega)]; done)
      | (rw [if_neg (by omega), if_neg (by omega), if_neg (by omega), if_pos (by omega)]; done)
      | (rw [if_neg (by omega), if_neg (by omega), if_neg (by omega), if_neg (by omega), if_pos (by omega)]; done)
      | (rw [if_neg (by omega), if_neg (by omega), if_neg (by omega), if_neg (by omega), if_neg (by omega)]
         first
         | exact (aT hrows (by omega) (by rw [cB hc32.1 hc32.2 (j := j) (by omega) (by unfold cd; omega)]; decide)).trans (cB hc32.1 hc32.2 (by omega) (by unfold cd; omega))
         | exact (aT hrows (by omega) (by rw [cA hc32]; decide)).trans (cA hc32)
         | exact bE fun i hi => hrows i (by omega))
     ·(try simp only [zB, reduceCtorEq] at hc19)
      refine aI ?_
      refine hK3 _ ?_; clear hK3; refine ad [0, 1, 2, 3, 11, 20, 23, 26, 36] ?_; simp only [U, lkp, zE, reduceCtorEq, E, Y, D]
      refine Z fun K21 hK21 => ?_
      refine Z fun K22 hK22 => ?_
      refine ae hP hN rfl ?_
      iterate 2 (refine ab rfl fun K0 V => ?_; simp only [zE, op1, ev, lkp, ai, ag, ev, reduceCtorEq, E, D, J, S, M, O, Try.td3, Mly.av]; refine V _ ?_; clear V K0; simp only [put, app, aa, af, zE, zS, D])
      refine ah ?_
      refine hK22 _ ?_; clear hK22; refine ad [0, 1, 2, 3, 11, 20, 23, 26, 36, 42, 43] ?_; simp only [U, lkp, zE, reduceCtorEq, E, Y, D]
      refine aH ?_
      refine bj (fun n23 s23 => ∃ (k : Nat), (k ≤ m.nx.length) ∧ (∀ i, i < k → gX m i = 0) ∧ n23 = m.nx.length - k ∧ s23 = { env := [(1, .one (.ptr 0 0 0 0)), (3, .one (.int .i64 (m.nx.length : Int))), (42, .one (.int .i64 (m.nx.length : Int))), (43, .one (.int .i64 (k : Int)))], L := [.vars 58 [.int .i64 m.inp, .int .i64 m.st, .list (.list (.int .i64)) m.nx, .list (.list (.int .i64)) m.ot]] }) ?_ ?_
      ·exact ⟨_, _, aE [1, 3, 42, 43], 0, Nat.zero_le _, fun i hi => by omega, rfl, rfl⟩
      ·rintro n23 s23 ⟨k, hk, hrows, rfl, rfl⟩
       refine Z fun K24 hK24 => ?_
       refine ae hP hN rfl ?_
       (refine ab rfl fun K0 V => ?_; simp only [zE, op1, ev, lkp, ai, ag, aC, aB, aD, ak, az, aO, reduceCtorEq, E, D, J, S, M, O, Try.td3, Try.td4, Mly.av]; (repeat refine And.intro (by first | omega | assumption | exact rfl) ?_); refine V _ ?_; clear V K0; simp only [put, app, aa, af, zE, zS, D])
       refine ah ?_
       refine hK24 _ ?_; clear hK24; refine ad [1, 3, 42, 43, 44] ?_; simp only [U, lkp, zE, reduceCtorEq, E, Y, D]
       refine Z fun K25 hK25 => ?_
       refine aA (by simp only [ev, U, lkp, zE, reduceCtorEq, E, Y, D]; exact rfl) (fun hc26 => ?_) (fun hc26 => ?_)
       ·(try simp only [zB, reduceCtorEq] at hc26)
        refine aI ?_
        refine hK25 _ ?_; clear hK25; refine ad [1, 3, 42, 43, 44] ?_; simp only [U, lkp, zE, reduceCtorEq, E, Y, D]
        refine Z fun K27 hK27 => ?_
        refine aH ?_
        refine Z fun K28 hK28 => ?_
        refine ae hP hN rfl ?_
        iterate 2 (refine ab rfl fun K0 V => ?_; simp only [zE, op1, ev, lkp, ai, ag, ev, reduceCtorEq, E, D, J, S, M, O, Try.td3, Mly.av]; refine V _ ?_; clear V K0; simp only [put, app, aa, af, zE, zS, D])
        refine ah ?_
        refine hK28 _ ?_; clear hK28; refine ad [1, 3, 4, 42, 43, 44] ?_; simp only [U, lkp, zE, reduceCtorEq, E, Y, D]
        refine Z fun K29 hK29 => ?_
        refine Z fun K30 hK30 => ?_
        refine bY hP hN Try.mixed rfl ?_
        iterate 9 (refine ab rfl fun K0 V => ?_; simp only [zE, op1, ev, lkp, ai, ag, aw, ay, Nat.mul_one, au, ax, acs, Ty.dflt, zG, ao, aF, Ty.size, ne_eq, not_false_eq_true, Int.natCast_one, Int.mul_one, aK, br, bf, aY, b0, bn, Nat.div_one, aP, ba, aM, dite_true, aC, aB, aD, ak, az, aO, reduceCtorEq, E, D, J, S, M, O, Try.el22, Try.el26, Try.st58, Try.td2, Try.td22, Try.td26, Try.td3, Try.td4, Try.td58, Mly.av]; (repeat refine And.intro (by first | omega | assumption | exact rfl) ?_); (first | refine V _ ?_ | refine Or.inl (V _ ?_)); clear V K0; simp only [put, app, aa, af, zE, zS, D])
        (refine ab rfl fun K0 V => ?_; simp only [zE, op1, ev, lkp, ai, ag, ev, reduceCtorEq, E, D, J, S, M, O, Try.td4, Mly.av]; refine V _ ?_; clear V K0; simp only [put, app, aa, af, zE, zS, D])
        refine' aU (want := false) 9 rfl (m := 55) (by simp only [U, lkp, zE, reduceCtorEq, E, Y, D]; exact rfl) (by kernel_rfl) rfl rfl rfl rfl rfl (fun hg31 => ?a31) ?b31 ?c31
        case a31 =>
         have hq31 := hg31; (try simp only [zB, reduceCtorEq] at hg31); simp only [List.take_succ_cons, List.take_zero, List.cons_append, List.nil_append]
         (refine aL rfl fun K0 V => ?_; simp only [zE, op1, ev, lkp, ai, ag, aw, reduceCtorEq, E, D, J, S, M, O, Try.st58, Try.td3, Try.td58, Mly.av]; (repeat refine And.intro (by first | omega | assumption | exact rfl) ?_); refine V _ ?_; clear V K0; simp only [put, app, aa, af, zE, zS, D])
         (refine aL rfl fun K0 V => ?_; simp only [zE, op1, ev, lkp, ai, ag, ay, Nat.mul_one, au, ax, acs, Ty.dflt, zG, ao, reduceCtorEq, E, D, J, S, M, O, Try.el22, Try.td22, Mly.av]; (repeat refine And.intro (by first | omega | assumption | exact rfl) ?_); refine V _ ?_; clear V K0; simp only [put, app, aa, af, zE, zS, D])
         (refine aL rfl fun K0 V => ?_; simp only [zE, op1, ev, lkp, ai, ag, ev, reduceCtorEq, E, D, J, S, M, O, Try.td3, Mly.av]; refine V _ ?_; clear V K0; simp only [put, app, aa, af, zE, zS, D])
         (refine aL rfl fun K0 V => ?_; simp only [zE, op1, ev, lkp, ai, ag, aF, zG, Ty.dflt, Ty.size, Nat.mul_one, ne_eq, not_false_eq_true, Int.natCast_one, Int.mul_one, reduceCtorEq, E, D, J, S, M, O, Try.el22, Try.td22, Mly.av]; (repeat refine And.intro (by first | omega | assumption | exact rfl) ?_); refine V _ ?_; clear V K0; simp only [put, app, aa, af, zE, zS, D])
         (refine aL rfl fun K0 V => ?_; simp only [zE, op1, ev, lkp, ai, ag, ay, Nat.mul_one, au, ax, acs, Ty.dflt, zG, ao, reduceCtorEq, E, D, J, S, M, O, Try.el26, Try.td26, Mly.av]; (repeat refine And.intro (by first | omega | assumption | exact rfl) ?_); refine V _ ?_; clear V K0; simp only [put, app, aa, af, zE, zS, D])
         (refine aL rfl fun K0 V => ?_; simp only [zE, op1, ev, lkp, ai, ag, aK, br, bf, aY, b0, bn, Nat.div_one, aP, ba, Ty.size, aM, dite_true, reduceCtorEq, E, D, J, S, M, O, Try.el26, Try.td26, Try.td3, Mly.av]; (repeat refine And.intro (by first | omega | assumption | exact rfl) ?_); (first | refine V _ ?_ | refine Or.inl (V _ ?_)); clear V K0; simp only [put, app, aa, af, zE, zS, D])
         (refine aL rfl fun K0 V => ?_; simp only [zE, op1, ev, lkp, ai, ag, aw, reduceCtorEq, E, D, J, S, M, O, Try.st58, Try.td58, Mly.av]; (repeat refine And.intro (by first | omega | assumption | exact rfl) ?_); refine V _ ?_; clear V K0; simp only [put, app, aa, af, zE, zS, D])
         (refine aL rfl fun K0 V => ?_; simp only [zE, op1, ev, lkp, ai, ag, ay, Nat.mul_one, au, ax, acs, Ty.dflt, zG, ao, reduceCtorEq, E, D, J, S, M, O, Try.td3, Mly.av]; (repeat refine And.intro (by first | omega | assumption | exact rfl) ?_); refine V _ ?_; clear V K0; simp only [put, app, aa, af, zE, zS, D])
         (refine aL rfl fun K0 V => ?_; simp only [zE, op1, ev, lkp, ai, ag, aC, aB, aD, ak, az, aO, reduceCtorEq, E, D, J, S, M, O, Try.td3, Try.td4, Mly.av]; (repeat refine And.intro (by first | omega | assumption | exact rfl) ?_); refine V _ ?_; clear V K0; simp only [put, app, aa, af, zE, zS, D])
         (refine ab rfl fun K0 V => ?_; simp only [zE, op1, ev, lkp, ai, ag, bq, reduceCtorEq, E, D, J, S, M, O, Try.td4, Mly.av]; refine V _ ?_; clear V K0; simp only [put, app, aa, af, zE, zS, D])
         refine ah ?_
         refine ⟨by simp only [U, lkp, zE, reduceCtorEq, E, Y, D]; exact rfl, rfl, ?_, rfl⟩; (repeat refine aV rfl ?_); exact bu (by exact rfl) hq31
        case b31 => exact bt (by first | rfl | (simp [c0]; done) | decide)
        simp only [bm, bb]
        refine ah ?_
        refine ⟨by kernel_rfl, ?_⟩
        refine hK30 _ ?_; clear hK30; refine ad [1, 3, 4, 42, 43, 44, 65] ?_; simp only [U, lkp, zE, reduceCtorEq, E, Y, D]
        refine aA (by simp only [ev, U, lkp, zE, reduceCtorEq, E, Y, D]; exact rfl) (fun hc32 => ?_) (fun hc32 => ?_)
        ·(try simp only [zB, reduceCtorEq] at hc32)
         refine Z fun K33 hK33 => ?_
         refine ae hP hN rfl ?_
         (refine ab rfl fun K0 V => ?_; simp only [zE, op1, ev, lkp, ai, ag, ev, reduceCtorEq, E, D, J, S, M, O, Try.td29, Mly.av]; refine V _ ?_; clear V K0; simp only [put, app, aa, af, zE, zS, D])
         refine ah ?_
         refine hK33 _ ?_; clear hK33; refine ad [1, 2, 3, 4, 42, 43, 44, 65] ?_; simp only [U, lkp, zE, reduceCtorEq, E, Y, D]
         refine aJ ?_
         refine ⟨by first | exact .inl rfl | exact .inr rfl, _, rfl, ?_⟩; simp only [fzV, fz1, fzC, List.map_cons, List.map_nil, U, lkp, zE, reduceCtorEq, E, Y, D, Mly.av]
         refine VLE.of_eq ?_
         refine congrArg (fun n => AV.one (AC.int IntKind.i64 n)) ?_
         symm
         unfold cv
         first
         | (rw [if_pos (by omega)]; done)
         | (rw [if_neg (by omega), if_pos (by omega)]; done)
         | (rw [if_neg (by omega), if_neg (by omega), if_pos (by omega)]; done)
         | (rw [if_neg (by omega), if_neg (by omega), if_neg (by omega), if_pos (by omega)]; done)
         | (rw [if_neg (by omega), if_neg (by omega), if_neg (by omega), if_neg (by omega), if_pos (by omega)]; done)
         | (rw [if_neg (by omega), if_neg (by omega), if_neg (by omega), if_neg (by omega), if_neg (by omega)]
            first
            | exact (aT hrows (by omega) (by rw [cB hc32.1 hc32.2 (j := j) (by omega) (by unfold cd; omega)]; decide)).trans (cB hc32.1 hc32.2 (by omega) (by unfold cd; omega))
            | exact (aT hrows (by omega) (by rw [cA hc32]; decide)).trans (cA hc32)
            | exact bE fun i hi => hrows i (by omega))
        ·(try simp only [zB, reduceCtorEq] at hc32)
         refine aI ?_
         refine hK29 _ ?_; clear hK29; refine ad [1, 3, 4, 42, 43, 44, 65] ?_; simp only [U, lkp, zE, reduceCtorEq, E, Y, D]
         refine Z fun K34 hK34 => ?_
         refine ae hP hN rfl ?_
         iterate 3 (refine ab rfl fun K0 V => ?_; simp only [zE, op1, ev, lkp, ai, ag, aw, ay, Nat.mul_one, au, ax, acs, Ty.dflt, zG, ao, reduceCtorEq, E, D, J, S, M, O, Try.st58, Try.td3, Try.td58, Mly.av]; (repeat refine And.intro (by first | omega | assumption | exact rfl) ?_); refine V _ ?_; clear V K0; simp only [put, app, aa, af, zE, zS, D])
         refine ah ?_
         refine hK34 _ ?_; clear hK34; refine ad [1, 3, 4, 42, 43, 44, 65, 67, 68] ?_; simp only [U, lkp, zE, reduceCtorEq, E, Y, D]
         refine aH ?_
         refine bj (fun n35 s35 => ∃ (j : Nat), ((j : Int) ≤ m.inp) ∧ (∀ a, a < j → ¬ cd m k a) ∧ n35 = m.inp.toNat - j ∧ s35 = { env := [(1, .one (.ptr 0 0 0 0)), (3, .one (.int .i64 (m.nx.length : Int))), (4, .one (.int .i64 (k : Int))), (42, .one (.int .i64 (m.nx.length : Int))), (43, .one (.int .i64 (k : Int))), (67, .one (.int .i64 m.inp)), (68, .one (.int .i64 (j : Int)))], L := [.vars 58 [.int .i64 m.inp, .int .i64 m.st, .list (.list (.int .i64)) m.nx, .list (.list (.int .i64)) m.ot]] }) ?_ ?_
         ·refine ⟨_, _, aE [1, 3, 4, 42, 43, 67, 68], 0, ?_, fun i hi => by omega, rfl, rfl⟩; omega
         ·rintro n35 s35 ⟨j, hj, hcells, rfl, rfl⟩
          refine Z fun K36 hK36 => ?_
          refine ae hP hN rfl ?_
          (refine ab rfl fun K0 V => ?_; simp only [zE, op1, ev, lkp, ai, ag, aC, aB, aD, ak, az, aO, reduceCtorEq, E, D, J, S, M, O, Try.td3, Try.td4, Mly.av]; (repeat refine And.intro (by first | omega | assumption | exact rfl) ?_); refine V _ ?_; clear V K0; simp only [put, app, aa, af, zE, zS, D])
          refine ah ?_
          refine hK36 _ ?_; clear hK36; refine ad [1, 3, 4, 42, 43, 67, 68, 69] ?_; simp only [U, lkp, zE, reduceCtorEq, E, Y, D]
          refine Z fun K37 hK37 => ?_
          refine aA (by simp only [ev, U, lkp, zE, reduceCtorEq, E, Y, D]; exact rfl) (fun hc38 => ?_) (fun hc38 => ?_)
          ·(try simp only [zB, reduceCtorEq] at hc38)
           refine aI ?_
           refine hK37 _ ?_; clear hK37; refine ad [1, 3, 4, 42, 43, 67, 68, 69] ?_; simp only [U, lkp, zE, reduceCtorEq, E, Y, D]
           refine Z fun K39 hK39 => ?_
           refine aH ?_
           refine Z fun K40 hK40 => ?_
           refine ae hP hN rfl ?_
           iterate 2 (refine ab rfl fun K0 V => ?_; simp only [zE, op1, ev, lkp, ai, ag, ev, reduceCtorEq, E, D, J, S, M, O, Try.td3, Mly.av]; refine V _ ?_; clear V K0; simp only [put, app, aa, af, zE, zS, D])
           refine ah ?_
           refine hK40 _ ?_; clear hK40; refine ad [1, 3, 4, 5, 42, 43, 67, 68, 69] ?_; simp only [U, lkp, zE, reduceCtorEq, E, Y, D]
           refine Z fun K41 hK41 => ?_
           refine bY hP hN Try.mixed rfl ?_
           iterate 18 (refine ab rfl fun K0 V => ?_; simp only [zE, op1, ev, lkp, ai, ag, aw, ay, Nat.mul_one, au, ax, acs, Ty.dflt, zG, ao, aF, Ty.size, ne_eq, not_false_eq_true, Int.natCast_one, Int.mul_one, reduceCtorEq, E, D, J, S, M, O, Try.el22, Try.el26, Try.st58, Try.td2, Try.td22, Try.td26, Try.td3, Try.td58, Mly.av]; (repeat refine And.intro (by first | omega | assumption | exact rfl) ?_); refine V _ ?_; clear V K0; simp only [put, app, aa, af, zE, zS, D])
           refine ah ?_
           refine ⟨by kernel_rfl, ?_⟩
           refine hK41 _ ?_; clear hK41; refine ad [1, 3, 4, 5, 6, 7, 42, 43, 67, 68, 69] ?_; simp only [U, lkp, zE, reduceCtorEq, E, Y, D]
           refine Z fun K42 hK42 => ?_
           refine ae hP hN rfl ?_
           iterate 2 (refine ab rfl fun K0 V => ?_; simp only [zE, op1, ev, lkp, ai, ag, aC, aB, aD, ak, az, aO, reduceCtorEq, E, D, J, S, M, O, Try.td3, Try.td4, Mly.av]; (repeat refine And.intro (by first | omega | assumption | exact rfl) ?_); refine V _ ?_; clear V K0; simp only [put, app, aa, af, zE, zS, D])
           (refine ab rfl fun K0 V => ?_; simp only [zE, op1, ev, lkp, ai, ag, ev, reduceCtorEq, E, D, J, S, M, O, Try.td4, Mly.av]; refine V _ ?_; clear V K0; simp only [put, app, aa, af, zE, zS, D])
           refine' aU (want := false) 3 rfl (m := 89) (by simp only [U, lkp, zE, reduceCtorEq, E, Y, D]; exact rfl) (by kernel_rfl) rfl rfl rfl rfl rfl (fun hg43 => ?a43) ?b43 ?c43
           case a43 =>
            have hq43 := hg43; (try simp only [zB, reduceCtorEq] at hg43); simp only [List.take_succ_cons, List.take_zero, List.cons_append, List.nil_append]
            (refine aL rfl fun K0 V => ?_; simp only [zE, op1, ev, lkp, ai, ag, ev, reduceCtorEq, E, D, J, S, M, O, Try.td3, Mly.av]; refine V _ ?_; clear V K0; simp only [put, app, aa, af, zE, zS, D])
            (refine aL rfl fun K0 V => ?_; simp only [zE, op1, ev, lkp, ai, ag, ev, reduceCtorEq, E, D, J, S, M, O, Try.td3, Mly.av]; refine V _ ?_; clear V K0; simp only [put, app, aa, af, zE, zS, D])
            (refine aL rfl fun K0 V => ?_; simp only [zE, op1, ev, lkp, ai, ag, aC, aB, aD, ak, az, aO, reduceCtorEq, E, D, J, S, M, O, Try.td3, Try.td4, Mly.av]; (repeat refine And.intro (by first | omega | assumption | exact rfl) ?_); refine V _ ?_; clear V K0; simp only [put, app, aa, af, zE, zS, D])
            (refine ab rfl fun K0 V => ?_; simp only [zE, op1, ev, lkp, ai, ag, bq, reduceCtorEq, E, D, J, S, M, O, Try.td4, Mly.av]; refine V _ ?_; clear V K0; simp only [put, app, aa, af, zE, zS, D])
            refine ah ?_
            refine ⟨by simp only [U, lkp, zE, reduceCtorEq, E, Y, D]; exact rfl, rfl, ?_, rfl⟩; (repeat refine aV rfl ?_); exact bu (by exact rfl) hq43
           case b43 => exact bt (by first | rfl | (simp [c0]; done) | decide)
           simp only [bm, bb]
           (refine ab rfl fun K0 V => ?_; simp only [zE, op1, ev, lkp, ai, ag, ev, reduceCtorEq, E, D, J, S, M, O, Try.td4, Mly.av]; refine V _ ?_; clear V K0; simp only [put, app, aa, af, zE, zS, D])
           refine' aU (want := false) 2 rfl (m := 94) (by simp only [U, lkp, zE, reduceCtorEq, E, Y, D]; exact rfl) (by kernel_rfl) rfl rfl rfl rfl rfl (fun hg44 => ?a44) ?b44 ?c44
           case a44 =>
            have hq44 := hg44; (try simp only [zB, reduceCtorEq] at hg44); simp only [List.take_succ_cons, List.take_zero, List.cons_append, List.nil_append]
            (refine aL rfl fun K0 V => ?_; simp only [zE, op1, ev, lkp, ai, ag, ev, reduceCtorEq, E, D, J, S, M, O, Try.td3, Mly.av]; refine V _ ?_; clear V K0; simp only [put, app, aa, af, zE, zS, D])
            (refine aL rfl fun K0 V => ?_; simp only [zE, op1, ev, lkp, ai, ag, aC, aB, aD, ak, az, aO, reduceCtorEq, E, D, J, S, M, O, Try.td3, Try.td4, Mly.av]; (repeat refine And.intro (by first | omega | assumption | exact rfl) ?_); refine V _ ?_; clear V K0; simp only [put, app, aa, af, zE, zS, D])
            (refine ab rfl fun K0 V => ?_; simp only [zE, op1, ev, lkp, ai, ag, bq, reduceCtorEq, E, D, J, S, M, O, Try.td4, Mly.av]; refine V _ ?_; clear V K0; simp only [put, app, aa, af, zE, zS, D])
            refine ah ?_
            refine ⟨by simp only [U, lkp, zE, reduceCtorEq, E, Y, D]; exact rfl, rfl, ?_, rfl⟩; (repeat refine aV rfl ?_); exact bu (by exact rfl) hq44
           case b44 => exact bt (by first | rfl | (simp [c0]; done) | decide)
           simp only [bm, bb]
           (refine ab rfl fun K0 V => ?_; simp only [zE, op1, ev, lkp, ai, ag, ev, reduceCtorEq, E, D, J, S, M, O, Try.td4, Mly.av]; refine V _ ?_; clear V K0; simp only [put, app, aa, af, zE, zS, D])
           refine' aU (want := false) 2 rfl (m := 98) (by simp only [U, lkp, zE, reduceCtorEq, E, Y, D]; exact rfl) (by kernel_rfl) rfl rfl rfl rfl rfl (fun hg45 => ?a45) ?b45 ?c45
           case a45 =>
            have hq45 := hg45; (try simp only [zB, reduceCtorEq] at hg45); simp only [List.take_succ_cons, List.take_zero, List.cons_append, List.nil_append]
            (refine aL rfl fun K0 V => ?_; simp only [zE, op1, ev, lkp, ai, ag, ev, reduceCtorEq, E, D, J, S, M, O, Try.td3, Mly.av]; refine V _ ?_; clear V K0; simp only [put, app, aa, af, zE, zS, D])
            (refine aL rfl fun K0 V => ?_; simp only [zE, op1, ev, lkp, ai, ag, aC, aB, aD, ak, az, aO, reduceCtorEq, E, D, J, S, M, O, Try.td3, Try.td4, Mly.av]; (repeat refine And.intro (by first | omega | assumption | exact rfl) ?_); refine V _ ?_; clear V K0; simp only [put, app, aa, af, zE, zS, D])
            (refine ab rfl fun K0 V => ?_; simp only [zE, op1, ev, lkp, ai, ag, bq, reduceCtorEq, E, D, J, S, M, O, Try.td4, Mly.av]; refine V _ ?_; clear V K0; simp only [put, app, aa, af, zE, zS, D])
            refine ah ?_
            refine ⟨by simp only [U, lkp, zE, reduceCtorEq, E, Y, D]; exact rfl, rfl, ?_, rfl⟩; (repeat refine aV rfl ?_); exact bu (by exact rfl) hq45
           case b45 => exact bt (by first | rfl | (simp [c0]; done) | decide)
           simp only [bm, bb]
           refine ah ?_
           refine hK42 _ ?_; clear hK42; refine ad [1, 3, 4, 5, 6, 7, 42, 43, 67, 68, 69, 101] ?_; simp only [U, lkp, zE, reduceCtorEq, E, Y, D]
           refine aA (by simp only [ev, U, lkp, zE, reduceCtorEq, E, Y, D]; exact rfl) (fun hc46 => ?_) (fun hc46 => ?_)
           ·(try simp only [zB, reduceCtorEq] at hc46)
            refine Z fun K47 hK47 => ?_
            refine ae hP hN rfl ?_
            (refine ab rfl fun K0 V => ?_; simp only [zE, op1, ev, lkp, ai, ag, ev, reduceCtorEq, E, D, J, S, M, O, Try.td29, Mly.av]; refine V _ ?_; clear V K0; simp only [put, app, aa, af, zE, zS, D])
            refine ah ?_
            refine hK47 _ ?_; clear hK47; refine ad [1, 2, 3, 4, 5, 6, 7, 42, 43, 67, 68, 69, 101] ?_; simp only [U, lkp, zE, reduceCtorEq, E, Y, D]
            refine aJ ?_
            refine ⟨by first | exact .inl rfl | exact .inr rfl, _, rfl, ?_⟩; simp only [fzV, fz1, fzC, List.map_cons, List.map_nil, U, lkp, zE, reduceCtorEq, E, Y, D, Mly.av]
            refine VLE.of_eq ?_
            refine congrArg (fun n => AV.one (AC.int IntKind.i64 n)) ?_
            symm
            unfold cv
            first
            | (rw [if_pos (by omega)]; done)
            | (rw [if_neg (by omega), if_pos (by omega)]; done)
            | (rw [if_neg (by omega), if_neg (by omega), if_pos (by omega)]; done)
            | (rw [if_neg (by omega), if_neg (by omega), if_neg (by omega), if_pos (by omega)]; done)
            | (rw [if_neg (by omega), if_neg (by omega), if_neg (by omega), if_neg (by omega), if_pos (by omega)]; done)
            | (rw [if_neg (by omega), if_neg (by omega), if_neg (by omega), if_neg (by omega), if_neg (by omega)]
               first
               | exact (aT hrows (by omega) (by rw [cB hc32.1 hc32.2 (j := j) (by omega) (by unfold cd; omega)]; decide)).trans (cB hc32.1 hc32.2 (by omega) (by unfold cd; omega))
               | exact (aT hrows (by omega) (by rw [cA hc32]; decide)).trans (cA hc32)
               | exact bE fun i hi => hrows i (by omega))
           ·(try simp only [zB, reduceCtorEq] at hc46)
            refine aI ?_
            refine hK39 _ ?_; clear hK39; refine ad [1, 3, 4, 5, 6, 7, 42, 43, 67, 68, 69, 101] ?_; simp only [U, lkp, zE, reduceCtorEq, E, Y, D]
            refine ae hP hN rfl ?_
            iterate 2 (refine ab rfl fun K0 V => ?_; simp only [zE, op1, ev, lkp, ai, ag, aC, aB, aD, ak, az, aO, reduceCtorEq, E, D, J, S, M, O, Try.td3, Mly.av]; (repeat refine And.intro (by first | omega | assumption | exact rfl) ?_); refine V _ ?_; clear V K0; simp only [put, app, aa, af, zE, zS, D])
            refine ah ?_
            refine ⟨_, _, ?_, aE [1, 3, 4, 42, 43, 67, 68], j + 1, ?_, fun a ha => ?_, rfl, rfl⟩
            · omega
            · omega
            · by_cases e : a = j
              · rw [e]; unfold cd; omega
              · exact hcells a (by omega)
          ·(try simp only [zB, reduceCtorEq] at hc38)
           refine bg ?_
           refine hK27 _ ?_; clear hK27; refine ad [1, 3, 4, 42, 43, 67, 68, 69] ?_; simp only [U, lkp, zE, reduceCtorEq, E, Y, D]
           refine ae hP hN rfl ?_
           iterate 2 (refine ab rfl fun K0 V => ?_; simp only [zE, op1, ev, lkp, ai, ag, aC, aB, aD, ak, az, aO, reduceCtorEq, E, D, J, S, M, O, Try.td3, Mly.av]; (repeat refine And.intro (by first | omega | assumption | exact rfl) ?_); refine V _ ?_; clear V K0; simp only [put, app, aa, af, zE, zS, D])
           refine ah ?_
           refine ⟨_, _, ?_, aE [1, 3, 42, 43], k + 1, by omega, fun i hi => ?_, rfl, rfl⟩
           · omega
           · by_cases e : i = k
             · rw [e]; exact sj hc32.1 hc32.2 fun a ha => hcells a (by omega)
             · exact hrows i (by omega)
       ·(try simp only [zB, reduceCtorEq] at hc26)
        refine bg ?_
        refine hK21 _ ?_; clear hK21; refine ad [1, 3, 42, 43, 44] ?_; simp only [U, lkp, zE, reduceCtorEq, E, Y, D]
        refine Z fun K48 hK48 => ?_
        refine ae hP hN rfl ?_
        (refine ab rfl fun K0 V => ?_; simp only [zE, op1, ev, lkp, ai, ag, ev, reduceCtorEq, E, D, J, S, M, O, Try.td29, Mly.av]; refine V _ ?_; clear V K0; simp only [put, app, aa, af, zE, zS, D])
        refine ah ?_
        refine hK48 _ ?_; clear hK48; refine ad [1, 2, 3, 42, 43, 44] ?_; simp only [U, lkp, zE, reduceCtorEq, E, Y, D]
        refine aJ ?_
        refine ⟨by first | exact .inl rfl | exact .inr rfl, _, rfl, ?_⟩; simp only [fzV, fz1, fzC, List.map_cons, List.map_nil, U, lkp, zE, reduceCtorEq, E, Y, D, Mly.av]
        refine VLE.of_eq ?_
        refine congrArg (fun n => AV.one (AC.int IntKind.i64 n)) ?_
        symm
        unfold cv
        first
        | (rw [if_pos (by omega)]; done)
        | (rw [if_neg (by omega), if_pos (by omega)]; done)
        | (rw [if_neg (by omega), if_neg (by omega), if_pos (by omega)]; done)
        | (rw [if_neg (by omega), if_neg (by omega), if_neg (by omega), if_pos (by omega)]; done)
        | (rw [if_neg (by omega), if_neg (by omega), if_neg (by omega), if_neg (by omega), if_pos (by omega)]; done)
        | (rw [if_neg (by omega), if_neg (by omega), if_neg (by omega), if_neg (by omega), if_neg (by omega)]
           first
           | exact (aT hrows (by omega) (by rw [cB hc32.1 hc32.2 (j := j) (by omega) (by unfold cd; omega)]; decide)).trans (cB hc32.1 hc32.2 (by omega) (by unfold cd; omega))
           | exact (aT hrows (by omega) (by rw [cA hc32]; decide)).trans (cA hc32)
           | exact bE fun i hi => hrows i (by omega))
end Go.Proofs.Ytdkgcbhbpdbmnaa
namespace Go.Proofs.Ytdkgcbhbpdbmnaa
open Go Go.AV
open Nat renaming reduceEqDiff → E, reduceAdd → D, reduceLeDiff → J, reduceLT → S, reduceMul → M, reduceSub → O
open List renaming set_cons_zero → ar, set_cons_succ → aq
set_option maxRecDepth 100000 in
theorem se (m : Mly) : bH Try.prog 70 [m.av] (.one (.list (.int .i64) (j7 m))) := by
 refine aR Try.func70 rfl (by kernel_rfl) (Nat.le_of_ble_eq_true rfl) rfl fun C hP hN hB => ?_
 replace hN : C.N = 24 := hN
 simp only [Y, D]
 refine Z fun K1 hK1 => ?_
 refine ae hP hN rfl ?_
 iterate 2 (refine ab rfl fun K0 V => ?_; simp only [zE, op1, ev, lkp, ai, ag, ch, am, reduceCtorEq, E, D, J, S, M, O, Try.el26, Try.st58, Try.td26, Try.td58, Mly.av]; (repeat refine And.intro (by first | omega | assumption | exact rfl) ?_); refine V _ ?_; clear V K0; simp only [put, app, aa, af, zE, zS, D])
 refine ah ?_
 refine hK1 _ ?_; clear hK1; refine ad [0, 1, 2] ?_; simp only [U, lkp, zE, reduceCtorEq, E, Y, D]
 refine Z fun K2 hK2 => ?_
 refine Z fun K3 hK3 => ?_
 refine ae hP hN rfl ?_
 (refine ab rfl fun K0 V => ?_; simp only [zE, op1, ev, lkp, ai, ag, ay, Nat.mul_one, au, ax, acs, Ty.dflt, zG, ao, reduceCtorEq, E, D, J, S, M, O, Try.st58, Try.td58, Mly.av]; (repeat refine And.intro (by first | omega | assumption | exact rfl) ?_); refine V _ ?_; clear V K0; simp only [put, app, aa, af, zE, zS, D])
 refine ab rfl fun K0 V => ?_
 refine aS (h := aG (mW m)) rfl rfl (by first | exact rfl | (simp only [ev, U, lkp, zE, reduceCtorEq, E, Y, D]; exact rfl)) (by simp only [zE, zG, op1, ev, lkp, ai, ag, am, acs, be, mv1, mvC, Ty.dflt, reduceCtorEq, E, D, J, S, M, O, Mly.av]) ?_
 refine V _ ?_; clear V K0; simp only [put, app, aa, af, zE, zS, D]
 (refine ab rfl fun K0 V => ?_; simp only [zE, op1, ev, lkp, ai, ag, aC, aB, aD, ak, az, aO, reduceCtorEq, E, D, J, S, M, O, Try.td29, Try.td4, Mly.av]; (repeat refine And.intro (by first | omega | assumption | exact rfl) ?_); refine V _ ?_; clear V K0; simp only [put, app, aa, af, zE, zS, D])
 refine ah ?_
 refine hK3 _ ?_; clear hK3; refine ad [0, 1, 2, 8] ?_; simp only [U, lkp, zE, reduceCtorEq, E, Y, D]
 refine aA (by simp only [ev, U, lkp, zE, reduceCtorEq, E, Y, D]; exact rfl) (fun hc4 => ?_) (fun hc4 => ?_)
 ·(try simp only [zB, reduceCtorEq] at hc4)
  refine Z fun K5 hK5 => ?_
  refine ae hP hN rfl ?_
  (refine ab rfl fun K0 V => ?_; simp only [zE, op1, ev, lkp, ai, ag, ev, reduceCtorEq, E, D, J, S, M, O, Try.el26, Try.td26, Mly.av]; refine V _ ?_; clear V K0; simp only [put, app, aa, af, zE, zS, D])
  refine ah ?_
  refine hK5 _ ?_; clear hK5; refine ad [0, 1, 2, 8] ?_; simp only [U, lkp, zE, reduceCtorEq, E, Y, D]
  refine aJ ?_
  refine ⟨by first | exact .inl rfl | exact .inr rfl, _, rfl, ?_⟩; simp only [fzV, fz1, fzC, List.map_cons, List.map_nil, U, lkp, zE, reduceCtorEq, E, Y, D, Mly.av]
  first
  | (rw [lQ ‹¬cv m = 0›]; exact kg (aQ rfl))
  | (rw [l9 hv]; exact VLE.of_eq rfl)
 ·(try simp only [zB, reduceCtorEq] at hc4)
  have hv : cv m = 0 := by omega
  have hm := mQ hv; have hol := hm.ol; have hi1 := hm.i1; have hi2 := hm.i2; have hn1 := hm.n1; have hn2 := hm.n2
  refine aI ?_
  refine hK2 _ ?_; clear hK2; refine ad [0, 1, 2, 8] ?_; simp only [U, lkp, zE, reduceCtorEq, E, Y, D]
  refine Z fun K6 hK6 => ?_
  refine ae hP hN rfl ?_
  (refine ab rfl fun K0 V => ?_; simp only [zE, op1, ev, lkp, ai, ag, ev, reduceCtorEq, E, D, J, S, M, O, Try.el26, Try.td26, Mly.av]; refine V _ ?_; clear V K0; simp only [put, app, aa, af, zE, zS, D])
  refine ah ?_
  refine hK6 _ ?_; clear hK6; refine ad [0, 1, 2, 3, 8] ?_; simp only [U, lkp, zE, reduceCtorEq, E, Y, D]
  refine Z fun K7 hK7 => ?_
  refine Z fun K8 hK8 => ?_
  refine ae hP hN rfl ?_
  iterate 4 (refine ab rfl fun K0 V => ?_; simp only [zE, op1, ev, lkp, ai, ag, aw, ay, Nat.mul_one, au, ax, acs, Ty.dflt, zG, ao, aK, br, bf, aY, b0, bn, Nat.div_one, aP, ba, Ty.size, aM, dite_true, reduceCtorEq, E, D, J, S, M, O, Try.el22, Try.st58, Try.td22, Try.td3, Try.td58, Mly.av]; (repeat refine And.intro (by first | omega | assumption | exact rfl) ?_); (first | refine V _ ?_ | refine Or.inl (V _ ?_)); clear V K0; simp only [put, app, aa, af, zE, zS, D])
  refine ah ?_
  refine hK8 _ ?_; clear hK8; refine ad [0, 1, 2, 3, 8, 10, 11, 12] ?_; simp only [U, lkp, zE, reduceCtorEq, E, Y, D]
  refine aH ?_
  refine fx 3 (.int .i64) 3 (by decide) rfl ?_; simp only [List.length_cons, List.length_nil, List.cons_append, List.nil_append, Nat.zero_add, D]
  refine bj (fun n9 s9 => ∃ (s : Nat) (v : Nat), (s ≤ m.ot.length) ∧ n9 = m.ot.length - s ∧ s9 = { env := [(3, .one (.row 1 v)), (10, .one (.list (.list (.int .i64)) m.ot)), (11, .one (.int .i64 (m.ot.length : Int))), (12, .one (.int .i64 (s : Int)))], L := [.vars 58 [.int .i64 m.inp, .int .i64 m.st, .list (.list (.int .i64)) m.nx, .list (.list (.int .i64)) m.ot], .row (.int .i64) 3 v (m.ot.take s).flatten] }) ?_ ?_
  ·exact ⟨_, _, aE [3, 10, 11, 12], 0, 0, Nat.zero_le _, rfl, rfl⟩
  ·rintro n9 s9 ⟨s, v, hs, rfl, rfl⟩
   refine Z fun K10 hK10 => ?_
   refine ae hP hN rfl ?_
   (refine ab rfl fun K0 V => ?_; simp only [zE, op1, ev, lkp, ai, ag, aC, aB, aD, ak, az, aO, reduceCtorEq, E, D, J, S, M, O, Try.td3, Mly.av]; (repeat refine And.intro (by first | omega | assumption | exact rfl) ?_); refine V _ ?_; clear V K0; simp only [put, app, aa, af, zE, zS, D])
   refine ah ?_
   refine hK10 _ ?_; clear hK10; refine ad [3, 10, 11, 12, 13] ?_; simp only [U, lkp, zE, reduceCtorEq, E, Y, D]
   refine Z fun K11 hK11 => ?_
   refine aA (by simp only [ev, U, lkp, zE, reduceCtorEq, E, Y, D]; exact rfl) (fun hc12 => ?_) (fun hc12 => ?_)
   ·(try simp only [zB, reduceCtorEq] at hc12)
    refine aI ?_
    refine hK11 _ ?_; clear hK11; refine ad [3, 10, 11, 12, 13] ?_; simp only [U, lkp, zE, reduceCtorEq, E, Y, D]
    refine Z fun K13 hK13 => ?_
    refine aH ?_
    refine Z fun K14 hK14 => ?_
    refine ae hP hN rfl ?_
    iterate 3 (refine ab rfl fun K0 V => ?_; simp only [zE, op1, ev, lkp, ai, ag, aF, zG, Ty.dflt, Ty.size, Nat.mul_one, ne_eq, not_false_eq_true, Int.natCast_one, Int.mul_one, ay, au, ax, acs, ao, reduceCtorEq, E, D, J, S, M, O, Try.el22, Try.el26, Try.td22, Try.td26, Mly.av]; (repeat refine And.intro (by first | omega | assumption | exact rfl) ?_); refine V _ ?_; clear V K0; simp only [put, app, aa, af, zE, zS, D])
    refine ah ?_
    refine hK14 _ ?_; clear hK14; refine ad [3, 5, 10, 11, 12, 13] ?_; simp only [U, lkp, zE, reduceCtorEq, E, Y, D]
    have hf2 := gg hm (k := s + 1) (by omega); have hf3 := gg hm (k := s) (by omega); rw [d7 _ (by omega), List.length_append] at hf2
    refine ae hP hN rfl ?_
    iterate 4 (refine ab rfl fun K0 V => ?_; simp only [zE, op1, ev, lkp, ai, ag, aK, br, bf, aY, b0, bn, Nat.div_one, aP, ba, Ty.size, aM, dite_true, reduceCtorEq, E, D, J, S, M, O, Try.el26, Try.td26, Mly.av]; (repeat refine And.intro (by first | omega | assumption | exact rfl) ?_); (first | refine V _ ?_ | refine Or.inl (V _ ?_)); clear V K0; simp only [put, app, aa, af, zE, zS, D])
    refine ah ?_
    refine hK13 _ ?_; clear hK13; refine ad [3, 5, 10, 11, 12, 13] ?_; simp only [U, lkp, zE, reduceCtorEq, E, Y, D]
    refine ae hP hN rfl ?_
    iterate 2 (refine ab rfl fun K0 V => ?_; simp only [zE, op1, ev, lkp, ai, ag, aC, aB, aD, ak, az, aO, reduceCtorEq, E, D, J, S, M, O, Try.td3, Mly.av]; (repeat refine And.intro (by first | omega | assumption | exact rfl) ?_); refine V _ ?_; clear V K0; simp only [put, app, aa, af, zE, zS, D])
    refine ah ?_
    refine ⟨_, _, ?_, aE [3, 10, 11, 12], s + 1, v + 1, by omega, rfl, ?_⟩
    · omega
    · rw [d7 _ (by omega)]; rfl
   ·(try simp only [zB, reduceCtorEq] at hc12)
    refine bg ?_
    refine hK7 _ ?_; clear hK7; refine ad [3, 10, 11, 12, 13] ?_; simp only [U, lkp, zE, reduceCtorEq, E, Y, D]
    refine Z fun K15 hK15 => ?_
    have hsl : s = m.ot.length := by omega
    subst hsl
    rw [List.take_length]
    have hf2 := gg hm (k := m.ot.length) (Nat.le_refl _); have hf3 := jQ hm m.ot.length (Nat.le_refl _); rw [List.take_length] at hf2 hf3
    have hp9 : (1 : Int) * 1 ≤ m.ot.length * m.inp := Int.mul_le_mul (by omega) (by omega) (by omega) (by omega)
    have hpos : 0 < m.ot.flatten.length := by omega
    refine ae hP hN rfl ?_
    (refine ab rfl fun K0 V => ?_; simp only [zE, op1, ev, lkp, ai, ag, ev, reduceCtorEq, E, D, J, S, M, O, Try.el26, Try.td26, Mly.av]; refine V _ ?_; clear V K0; simp only [put, app, aa, af, zE, zS, D])
    refine ab rfl fun K0 V => ?_
    refine aS (h := oz (k := 1) (ver := v) (xs := m.ot.flatten) rG rfl (by omega) (by omega)) rfl rfl (by first | exact rfl | (simp only [ev, U, lkp, zE, reduceCtorEq, E, Y, D]; exact rfl)) (by simp only [zE, zG, op1, ev, lkp, ai, ag, am, acs, be, mv1, mvC, Ty.dflt, reduceCtorEq, E, D, J, S, M, O, Mly.av]) ?_
    refine V _ ?_; clear V K0; simp only [put, app, aa, af, zE, zS, D]
    refine ah ?_
    refine hK15 _ ?_; clear hK15; refine ad [3, 10, 11, 12, 13] ?_; simp only [U, lkp, zE, reduceCtorEq, E, Y, D]
    refine Z fun K16 hK16 => ?_
    refine ae hP hN rfl ?_
    (refine ab rfl fun K0 V => ?_; simp only [zE, op1, ev, lkp, ai, ag, ev, reduceCtorEq, E, D, J, S, M, O, Try.el26, Try.td26, Mly.av]; refine V _ ?_; clear V K0; simp only [put, app, aa, af, zE, zS, D])
    refine ab rfl fun K0 V => ?_
    refine aS (h := ll (k := 1) (ver := v) (xs := fj m.ot.flatten) nM rfl (by rw [kp]; omega) (by rw [kp]; omega) mw) rfl rfl (by first | exact rfl | (simp only [ev, U, lkp, zE, reduceCtorEq, E, Y, D]; exact rfl)) (by simp only [zE, zG, op1, ev, lkp, ai, ag, am, acs, be, mv1, mvC, Ty.dflt, reduceCtorEq, E, D, J, S, M, O, Mly.av]) ?_
    refine V _ ?_; clear V K0; simp only [put, app, aa, af, zE, zS, D]
    (refine ab rfl fun K0 V => ?_; simp only [zE, op1, ev, lkp, ai, ag, ev, reduceCtorEq, E, D, J, S, M, O, Try.el26, Try.td26, Mly.av]; refine V _ ?_; clear V K0; simp only [put, app, aa, af, zE, zS, D])
    refine ah ?_
    refine hK16 _ ?_; clear hK16; refine ad [2, 3, 10, 11, 12, 13] ?_; simp only [U, lkp, zE, reduceCtorEq, E, Y, D]
    refine aJ ?_
    refine ⟨by first | exact .inl rfl | exact .inr rfl, _, rfl, ?_⟩; simp only [fzV, fz1, fzC, List.map_cons, List.map_nil, U, lkp, zE, reduceCtorEq, E, Y, D, Mly.av]
    first
    | (rw [lQ ‹¬cv m = 0›]; exact kg (aQ rfl))
    | (rw [l9 hv]; exact VLE.of_eq rfl)
end Go.Proofs.Ytdkgcbhbpdbmnaa
