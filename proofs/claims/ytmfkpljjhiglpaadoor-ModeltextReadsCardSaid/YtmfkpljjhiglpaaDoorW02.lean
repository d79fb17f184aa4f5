/- Contracts of functions of this seat, each out of a walk through its code, and plain facts on what they compute. Conditions: those that each theorem names. -/
import Derived.Test.YtmfkpljjhiglpaaDoorW01
set_option linter.unusedSimpArgs false
set_option linter.unusedVariables false
set_option maxRecDepth 100000
namespace Go.AV
open Nat renaming reduceEqDiff → O, reduceAdd → M, reduceLeDiff → V, reduceLT → aa, reduceMul → Z, reduceSub → Y
open List renaming set_cons_zero → bu, set_cons_succ → aX, getD_cons_zero → cJ, length_append → ah, map_cons → aS, cons_append → ak, map_nil → bo, length_cons → aj, nil_append → ar, take_succ_cons → cj, length_nil → aq, length_map → bY, length_replicate → aI, take_length → aF, mem_cons_self → aQ, mem_cons_of_mem → aC
open Int renaming toNat_natCast → aE
/-plain-/
theorem mE : ∀ (f : Nat) (s : Bs), (gN f s).length ≤ f
  | 0, _ => Nat.zero_le _
  | f + 1, s => by
    show (if s = [] then [] else s.take (lnE s) :: gN f (s.drop (lnE s))).length ≤ _
    have := mE f (s.drop (lnE s))
    split
    · exact Nat.zero_le _
    · rw [aj]; omega
/-plain-/
theorem uC {m : Mly} (hv : bn m = 0) {n : Int} (h : ∀ s a : Nat, s < m.nx.length → (a : Int) < m.inp → (m.ot.getD s []).getD a 0 < n) : mxL (cV m) < n := by
  have hp := pP hv
  have hin : mxL (cV m) ∈ cV m := by
    unfold mxL
    rcases oZ (cV m) ((cV m).getD 0 0) with e | e
    · rw [e]; exact fl hp
    · exact e
  obtain ⟨s, a, hs, ha, e⟩ := qR (kc hv) ((mv hv).1 hin)
  rw [← e]
  exact h s a hs ha
/-plain-/
def unN : List (List Int) → Nat
  | [] => 0
  | l :: ls => l.countP (fun x => decide (x < 0)) + unN ls
theorem oq : ∀ {ls : List (List Int)} {s : Nat} {l : List Int}, s < ls.length → unN (ls.set s l) + (ls.getD s []).countP (fun x => decide (x < 0)) = unN ls + l.countP (fun x => decide (x < 0))
  | [], s, l, h => by simp at h
  | x :: ls, 0, l, h => by
    have e : (x :: ls).getD 0 [] = x := by simp [List.getD]
    rw [e, bu]
    simp only [unN]
    omega
  | x :: ls, s + 1, l, h => by
    have ih := oq (ls := ls) (s := s) (l := l) (by simpa using h)
    have e : (x :: ls).getD (s + 1) [] = ls.getD s [] := by simp [List.getD]
    rw [e, aX]
    simp only [unN]
    omega
theorem nn {l : List Int} {a : Nat} {t : Int} (ha : a < l.length) (h : l.getD a 0 < 0) (ht : 0 ≤ t) : (l.set a t).countP (fun x => decide (x < 0)) + 1 = l.countP (fun x => decide (x < 0)) := by
  induction l generalizing a with
  | nil => simp at ha
  | cons x l ih =>
    cases a with
    | zero =>
      have hx : x < 0 := by simpa [List.getD] using h
      rw [bu, List.countP_cons, List.countP_cons]
      have e1 : decide (t < 0) = false := decide_eq_false (by omega)
      have e2 : decide (x < 0) = true := decide_eq_true hx
      simp [e1, e2]
    | succ a =>
      have := ih (a := a) (by simpa using ha) (by simpa [List.getD] using h)
      rw [aX, List.countP_cons, List.countP_cons]
      omega
theorem me : ∀ {ls : List (List Int)}, unN ls = 0 → ∀ {s a : Nat}, s < ls.length → a < (ls.getD s []).length → 0 ≤ (ls.getD s []).getD a 0
  | [], _, s, a, hs, _ => by simp at hs
  | x :: ls, h, 0, a, _, ha => by
    simp only [unN] at h
    have hx : x.countP (fun x => decide (x < 0)) = 0 := by omega
    rw [List.countP_eq_zero] at hx
    have ha' : a < x.length := by simpa [List.getD] using ha
    have := hx _ (List.getElem_mem ha')
    simp only [decide_eq_true_eq] at this
    simp [List.getD, ha']
    omega
  | x :: ls, h, s + 1, a, hs, ha => by
    simp only [unN] at h
    have e : (x :: ls).getD (s + 1) [] = ls.getD s [] := by simp [List.getD]
    rw [e] at ha ⊢
    exact me (by omega) (by simpa using hs) ha
theorem oK (k : Nat) : ∀ n : Nat, unN (dy n k) = n * k
  | 0 => by simp [dy, unN]
  | n + 1 => by
    have ih := oK k n
    unfold dy at ih ⊢
    rw [List.replicate_succ]
    simp only [unN]
    rw [ih, List.countP_replicate, Nat.add_mul, Nat.one_mul]
    simp; omega
theorem tA {n k s a : Nat} (hs : s < n) (ha : a < k) : ((dy n k).getD s []).getD a 0 = -1 := by
  unfold dy; simp [List.getD, hs, ha]
structure RJ (r : RS) : Prop where
  nm : 1 ≤ r.rd → aY r.nm = true
  n1 : 4 ≤ r.rd → 1 ≤ r.sts.length ∧ r.inp = r.ins.length
  st : 5 ≤ r.rd → 0 ≤ r.st ∧ r.st < r.sts.length
  en : 4 ≤ r.rd → ∀ s a : Nat, s < r.sts.length → a < r.ins.length → (r.nx.getD s []).getD a 0 < 0 ∨ 0 ≤ (r.nx.getD s []).getD a 0 ∧ (r.nx.getD s []).getD a 0 < r.sts.length ∧ 0 ≤ (r.ot.getD s []).getD a 0 ∧ (r.ot.getD s []).getD a 0 < r.outs.length
  un : 4 ≤ r.rd → (unN r.nx : Int) ≤ r.lf
theorem uN : RJ rs0 := ⟨fun h => by simp [rs0] at h, fun h => by simp [rs0] at h, fun h => by simp [rs0] at h, fun h => by simp [rs0] at h, fun h => by simp [rs0] at h⟩
theorem sH {r : RS} {w : List Bs} (hI : RI r) (h : RJ r) (h5 : r.rd < 5) (he : (ba r w).2 = 0) : RJ { (ba r w).1 with rd := (ba r w).1.rd + 1 } := by
  unfold ba at he ⊢
  split
  · rename_i q; rw [if_pos q] at he; simp at he
  · rename_i q
    rw [if_neg q] at he
    split
    · rename_i e0
      rw [if_pos e0] at he
      have hb : aY (w.getD 1 []) = true := by
        by_cases e : aY (w.getD 1 []) = true
        · exact e
        · simp only [if_neg e] at he; omega
      exact ⟨fun _ => hb, fun q => by simp only at q; omega, fun q => by simp only at q; omega, fun q => by simp only at q; omega, fun q => by simp only at q; omega⟩
    · rename_i e0
      rw [if_neg e0] at he
      split
      · rename_i e1
        exact ⟨fun _ => h.nm (by omega), fun q => by simp only at q; omega, fun q => by simp only at q; omega, fun q => by simp only at q; omega, fun q => by simp only at q; omega⟩
      · rename_i e1
        rw [if_neg e1] at he
        split
        · rename_i e2
          exact ⟨fun _ => h.nm (by omega), fun q => by simp only at q; omega, fun q => by simp only at q; omega, fun q => by simp only at q; omega, fun q => by simp only at q; omega⟩
        · rename_i e2
          rw [if_neg e2] at he
          split
          · rename_i e3
            rw [if_pos e3] at he
            unfold gO at he ⊢
            split
            · rename_i en
              have hl : 1 ≤ (w.drop 1).length := by
                by_cases e : (w.drop 1).length = 0
                · rw [jn e] at en; omega
                · omega
              refine ⟨fun _ => h.nm (by omega), fun _ => ⟨hl, rfl⟩, fun q => by simp only [gc] at q; omega, fun _ s a hs ha => .inl ?_, fun _ => ?_⟩
              · show ((dy (w.drop 1).length r.ins.length).getD s []).getD a 0 < 0
                have := tA (n := (w.drop 1).length) (k := r.ins.length) hs ha
                omega
              · show (unN (dy (w.drop 1).length r.ins.length) : Int) ≤ ((w.drop 1).length : Int) * r.ins.length
                rw [oK, Int.natCast_mul]; omega
            · rename_i en; rw [if_neg en] at he; exact absurd he en
          · rename_i e3
            rw [if_neg e3] at he
            have h4 : 4 ≤ r.rd := by omega
            refine ⟨fun _ => h.nm (by omega), fun _ => h.n1 h4, fun _ => ?_, fun _ => h.en h4, fun _ => h.un h4⟩
            have hst : ¬ ixB r.sts (w.getD 1 []) < 0 := by
              intro e; simp only [if_pos e] at he; omega
            unfold ixB at hst
            split at hst
            · rename_i hm
              have := dA hm
              show 0 ≤ (if w.getD 1 [] ∈ r.sts then (pos r.sts (w.getD 1 []) : Int) else -1) ∧ (if w.getD 1 [] ∈ r.sts then (pos r.sts (w.getD 1 []) : Int) else -1) < (r.sts.length : Int)
              rw [if_pos hm]
              exact ⟨by omega, by omega⟩
            · omega
theorem pO {xs : List (List Int)} {s a : Nat} {v : Int} (hs : s < xs.length) (ha : a < (xs.getD s []).length) (i j : Nat) : ((xs.set s ((xs.getD s []).set a v)).getD i []).getD j 0 = if i = s ∧ j = a then v else (xs.getD i []).getD j 0 := by
  by_cases hi : i = s
  · subst hi
    have e : (xs.set i ((xs.getD i []).set a v)).getD i [] = (xs.getD i []).set a v := by simp [List.getD, hs]
    rw [e]
    by_cases hj : j = a
    · subst hj
      rw [if_pos ⟨rfl, rfl⟩]
      generalize xs.getD i [] = l at ha
      simp [List.getD, ha]
    · rw [if_neg (fun q => hj q.2)]
      generalize xs.getD i [] = l at ha
      simp [List.getD, List.getElem?_set, Ne.symm hj]
  · rw [if_neg (fun q => hi q.1)]
    have e : (xs.set s ((xs.getD s []).set a v)).getD i [] = xs.getD i [] := by simp [List.getD, List.getElem?_set, Ne.symm hi]
    rw [e]
theorem tt {r : RS} {w : List Bs} (hI : RI r) (h : RJ r) (h5 : 5 ≤ r.rd) (he : (bI r w).2 = 0) : RJ { (bI r w).1 with rd := (bI r w).1.rd + 1 } := by
  have h4 := hI.t4 (by omega)
  unfold bI at he ⊢
  split
  · rename_i q; rw [if_pos q] at he; simp at he
  · rename_i q
    rw [if_neg q] at he
    split
    · rename_i q2; rw [if_pos q2] at he; simp at he
    · rename_i q2
      rw [if_neg q2] at he
      split
      · rename_i q3; rw [if_pos q3] at he; simp at he
      · rename_i q3
        simp only [not_or, Classical.not_not] at q2
        have p0 := dA q2.1; have p3 := dA q2.2.1; have p1 := dA q2.2.2.1; have p2 := dA q2.2.2.2
        generalize pos r.sts (w.getD 0 []) = s at *
        generalize pos r.sts (w.getD 3 []) = t at *
        generalize pos r.ins (w.getD 1 []) = a at *
        generalize pos r.outs (w.getD 2 []) = o at *
        have hnl := h4.2.nl; have hol := h4.2.ol
        have hrl := h4.2.rl s p0; have hql := h4.2.ql s p0
        refine ⟨fun _ => h.nm (by omega), fun _ => h.n1 (by omega), fun _ => h.st (by omega), fun _ i j hi hj => ?_, fun _ => ?_⟩
        · show ((r.nx.set s ((r.nx.getD s []).set a (t : Int))).getD i []).getD j 0 < 0 ∨ 0 ≤ ((r.nx.set s ((r.nx.getD s []).set a (t : Int))).getD i []).getD j 0 ∧ ((r.nx.set s ((r.nx.getD s []).set a (t : Int))).getD i []).getD j 0 < (r.sts.length : Int) ∧ 0 ≤ ((r.ot.set s ((r.ot.getD s []).set a (o : Int))).getD i []).getD j 0 ∧ ((r.ot.set s ((r.ot.getD s []).set a (o : Int))).getD i []).getD j 0 < (r.outs.length : Int)
          rw [pO (by omega) (by omega), pO (by omega) (by omega)]
          split
          · exact .inr ⟨by omega, by omega, by omega, by omega⟩
          · exact h.en (by omega) i j hi hj
        · show (unN (r.nx.set s ((r.nx.getD s []).set a (t : Int))) : Int) ≤ r.lf - 1
          have e1 := oq (ls := r.nx) (s := s) (l := (r.nx.getD s []).set a (t : Int)) (by omega)
          have e2 := nn (l := r.nx.getD s []) (a := a) (t := (t : Int)) (by omega) (by omega) (by omega)
          have e3 := h.un (by omega)
          omega
theorem ss {r : RS} {s : Bs} (hI : RI r) (h : RJ r) (he : (aW r s).2 = 0) : RJ (aW r s).1 := by
  unfold aW at he ⊢
  split
  · rename_i q; rw [if_pos q] at he; simp at he
  · rename_i q
    rw [if_neg q] at he
    split
    · exact h
    · rename_i q2
      rw [if_neg q2] at he
      split
      · rename_i q3; rw [if_pos q3] at he; simp at he
      · rename_i q3
        rw [if_neg q3] at he
        unfold ct eD at he ⊢
        split
        · rename_i q4
          rw [if_pos q4] at he
          exact sH hI h q4 he
        · rename_i q4
          rw [if_neg q4] at he
          exact tt hI h (by omega) he
theorem tK {r : RS} (hI : RI r) (h : RJ r) (h5 : ¬ r.rd < 5) (hl : ¬ 0 < r.lf) : mvE (lQ r) = 0 := by
  have h4 := hI.t4 (by omega)
  have ha1 := hI.a1 (by omega); have ha2 := hI.a2 (by omega)
  have b1 := fw ha1; have b2 := fw ha2
  have hn1 := h.n1 (by omega); have hst := h.st (by omega); have hen := h.en (by omega); have hun := h.un (by omega)
  have hnl := h4.2.nl; have hol := h4.2.ol; have hn2 := h4.2.n2; have hrl := h4.2.rl; have hql := h4.2.ql
  have c1 := b1.n0; have c2 := b1.n1; have c3 := b2.n1
  have hz : ∀ s a : Nat, s < r.sts.length → a < r.ins.length → 0 ≤ (r.nx.getD s []).getD a 0 := fun s a hs ha => me (by omega) (by omega) (by rw [hrl s hs]; exact ha)
  have hM : MOK (lQ r).m := by
    refine ⟨?_, ?_, ?_, ?_, hst.1, ?_, ?_, fun s hs => ?_, fun s hs => ?_, fun s a hs ha => ?_, fun s a hs ha => ?_⟩
    · show 1 ≤ r.inp; omega
    · show r.inp ≤ 64; omega
    · show 1 ≤ r.nx.length; omega
    · show r.nx.length ≤ 128; omega
    · show r.st < (r.nx.length : Int); omega
    · show r.ot.length = r.nx.length; omega
    · have hs : s < r.nx.length := hs
      have := hrl s (by omega)
      show ((r.nx.getD s []).length : Int) = r.inp; omega
    · have hs : s < r.nx.length := hs
      have := hql s (by omega)
      show ((r.ot.getD s []).length : Int) = r.inp; omega
    · have hs : s < r.nx.length := hs
      have ha : (a : Int) < r.inp := ha
      have k1 := hz s a (by omega) (by omega)
      have k2 := hen s a (by omega) (by omega)
      show 0 ≤ (r.nx.getD s []).getD a 0 ∧ (r.nx.getD s []).getD a 0 < (r.nx.length : Int)
      omega
    · have hs : s < r.nx.length := hs
      have ha : (a : Int) < r.inp := ha
      have k1 := hz s a (by omega) (by omega)
      have k2 := hen s a (by omega) (by omega)
      show 0 ≤ (r.ot.getD s []).getD a 0 ∧ (r.ot.getD s []).getD a 0 ≤ 1048576
      omega
  have hv := pc hM
  refine kI (h.nm (by omega)) ha1 ha2 hv ⟨hn1.2, uC hv fun s a hs ha => ?_⟩
  have hs : s < r.nx.length := hs
  have ha : (a : Int) < r.inp := ha
  have k1 := hz s a (by omega) (by omega)
  have k2 := hen s a (by omega) (by omega)
  show (r.ot.getD s []).getD a 0 < (r.outs.length : Int)
  omega
theorem sF : ∀ {L : List Bs} {k : Nat} {r : RS}, RI r → RJ r → r.rd + L.length ≤ 1900000 → (PL L k r).2.2 = 0 → mvE (PL L k r).1 = 0 ∧ (PL L k r).2.1 = 0
  | [], k, r, hI, hJ, _, he => by
    have e : PL [] k r = if r.rd < 5 ∨ 0 < r.lf then (eZ, (k : Int) + 1, 12) else (lQ r, 0, 0) := rfl
    rw [e] at he ⊢
    by_cases q : r.rd < 5 ∨ 0 < r.lf
    · rw [if_pos q] at he; simp at he
    · rw [if_neg q]; exact ⟨tK hI hJ (by omega) (by omega), rfl⟩
  | l :: L, k, r, hI, hJ, hl, he => by
    have e : PL (l :: L) k r = if (aW r l).2 = 0 then PL L (k + 1) (aW r l).1 else (eZ, (k : Int) + 1, (aW r l).2) := rfl
    rw [aj] at hl
    rw [e] at he ⊢
    by_cases q : (aW r l).2 = 0
    · rw [if_pos q] at he ⊢
      obtain ⟨g1, g2⟩ := nY hI (by omega) q
      exact sF g1 (ss hI hJ q) (by omega) he
    · rw [if_neg q] at he; exact absurd he q
theorem qg : ∀ {L : List Bs} {k : Nat} {r : RS}, ¬ (PL L k r).2.2 = 0 → (PL L k r).1 = eZ ∧ 1 ≤ (PL L k r).2.1
  | [], k, r, he => by
    have e : PL [] k r = if r.rd < 5 ∨ 0 < r.lf then (eZ, (k : Int) + 1, 12) else (lQ r, 0, 0) := rfl
    rw [e] at he ⊢
    by_cases q : r.rd < 5 ∨ 0 < r.lf
    · rw [if_pos q]; exact ⟨rfl, by simp only; omega⟩
    · rw [if_neg q] at he; exact absurd rfl he
  | l :: L, k, r, he => by
    have e : PL (l :: L) k r = if (aW r l).2 = 0 then PL L (k + 1) (aW r l).1 else (eZ, (k : Int) + 1, (aW r l).2) := rfl
    rw [e] at he ⊢
    by_cases q : (aW r l).2 = 0
    · rw [if_pos q] at he ⊢
      exact qg he
    · rw [if_neg q]; exact ⟨rfl, by simp only; omega⟩
theorem ux {s : Bs} (hs : s.length ≤ 900000) (he : (PM s).2.2 = 0) : mvE (PM s).1 = 0 ∧ (PM s).2.1 = 0 := by
  have h1 : (lns s).length ≤ s.length := mE _ _
  unfold PM at he ⊢
  rw [if_neg (by omega)] at he ⊢
  exact sF ud uN (by show 0 + _ ≤ _; omega) he
theorem tw {s : Bs} (hs : s.length ≤ 900000) (he : ¬ (PM s).2.2 = 0) : (PM s).1 = eZ ∧ 1 ≤ (PM s).2.1 := by
  unfold PM at he ⊢
  rw [if_neg (by omega)] at he ⊢
  exact qg he
end Go.AV
namespace Go.Proofs.YtmfkpljjhiglpaaDoor
open Go Go.AV
open Nat renaming reduceEqDiff → O, reduceAdd → M, reduceLeDiff → V, reduceLT → aa, reduceMul → Z, reduceSub → Y
open List renaming set_cons_zero → bu, set_cons_succ → aX, getD_cons_zero → cJ, length_append → ah, map_cons → aS, cons_append → ak, map_nil → bo, length_cons → aj, nil_append → ar, take_succ_cons → cj, length_nil → aq, length_map → bY, length_replicate → aI, take_length → aF, mem_cons_self → aQ, mem_cons_of_mem → aC
open Int renaming toNat_natCast → aE
theorem zT : type_of% (And.intro Tryd.ea49 (And.intro Tryd.ea90 (And.intro Tryd.el22 (And.intro Tryd.el25 (And.intro Tryd.el44 (And.intro Tryd.sa49 (And.intro Tryd.sa90 (And.intro Tryd.st24 (And.intro Tryd.st27 (And.intro Tryd.st29 (And.intro Tryd.st56 (And.intro Tryd.td1 (And.intro Tryd.td2 (And.intro Tryd.td21 (And.intro Tryd.td22 (And.intro Tryd.td24 (And.intro Tryd.td25 (And.intro Tryd.td27 (And.intro Tryd.td29 (And.intro Tryd.td3 (And.intro Tryd.td32 (And.intro Tryd.td4 (And.intro Tryd.td44 (And.intro Tryd.td49 (And.intro Tryd.td5 (And.intro Tryd.td54 (And.intro Tryd.td56 (And.intro Tryd.td9 Tryd.td90)))))))))))))))))))))))))))) :=
  And.intro Tryd.ea49 (And.intro Tryd.ea90 (And.intro Tryd.el22 (And.intro Tryd.el25 (And.intro Tryd.el44 (And.intro Tryd.sa49 (And.intro Tryd.sa90 (And.intro Tryd.st24 (And.intro Tryd.st27 (And.intro Tryd.st29 (And.intro Tryd.st56 (And.intro Tryd.td1 (And.intro Tryd.td2 (And.intro Tryd.td21 (And.intro Tryd.td22 (And.intro Tryd.td24 (And.intro Tryd.td25 (And.intro Tryd.td27 (And.intro Tryd.td29 (And.intro Tryd.td3 (And.intro Tryd.td32 (And.intro Tryd.td4 (And.intro Tryd.td44 (And.intro Tryd.td49 (And.intro Tryd.td5 (And.intro Tryd.td54 (And.intro Tryd.td56 (And.intro Tryd.td9 Tryd.td90)))))))))))))))))))))))))))
theorem eG {P : Program} {f : FuncId} {args : List AV} {r : AV} {g : Nat} {x : Obj} {E : List AO} (h : cH P [.fact g x] f args { av := r, fp := [0] }) (hargs : args.all (fy 1) = true) : cH P (.fact g x :: E) f args { av := r, fp := [0] } :=
  nV (A := [.fact g x]) h rfl hargs rfl (fun p hp => by cases hp) (fun k hk => by simp only [aj, aq] at hk; exact List.mem_singleton.2 (by omega))
def POW (P : Program) (g : Nat) (x : Obj) : Prop := P.globalNamed "internal/strconv.uint64pow10" = some g ∧ ∃ t z, x = .cells (Lib.pow10Tab.map fun z => Value.int .u64 z).toArray t z
theorem rm {P : Program} {f : FuncId} {args : List AV} {b : Bool} {g : Nat} {x : Obj} (h : cH P [.fact g x] f args { av := .one (.bool b), fp := [0] }) {W : World} {vs : List Value} (hx : W.heap[g]? = some x)
    (ha : ∀ C L σ, aM (RV C L σ W) args vs) : Calls P f vs.toArray W fun e w' => ∃ v, e = .returned v ∧ MORE W w' ∧ True ∧ v = .bool b := by
  have hlt : g < W.heap.size := (Array.getElem?_eq_some_iff.1 hx).1
  let C : Ctx := { P := P, X := fun _ => False, keep := fun b => b < W.heap.size ∧ b ≠ g, w0 := W, N := 0, bL := [], bσ := fun _ => undef, bw := W }
  let σ : Sig := fun _ => .pointer (some ⟨g, 0, none⟩)
  have hown : ∀ o b, own [.fact g x] σ o b → o = 0 ∧ b = g := by
    rintro o b ⟨ob, h1, h2, h3⟩
    refine ⟨?_, ?_⟩
    · have := (List.getElem?_eq_some_iff.1 h1).1
      simp only [aj, aq] at this; omega
    · simp only [σ, blk, Option.some.injEq] at h3; exact h3.symm
  have hI : INV C [.fact g x] σ W := by
    refine ⟨fun o ob e => ?_, fun o o' b h1 h2 => ?_, fun o b h1 => ?_, fun b hb => ⟨hb.1, rfl⟩, fun b hb => hb.elim, Nat.le_refl _, rfl, rfl, rfl⟩
    · cases o with
      | zero => simp only [List.getElem?_cons_zero, Option.some.injEq] at e; subst e; exact ⟨rfl, hx⟩
      | succ o => simp at e
    · rw [(hown o b h1).1, (hown o' b h2).1]
    · rw [(hown o b h1).2]; exact ⟨fun hk => hk.2 rfl, fun hk => hk⟩
  refine (h.2 C [.fact g x] σ W vs rfl hI (ha _ _ _) (fun _ _ => rfl) rfl).mono fun e w' ⟨v, he, σ', h1, h2, h3⟩ => ⟨v, he, ?_, trivial, ?_⟩
  · refine ⟨h1.size, h1.os, h1.tape, h1.output, fun b hb => ?_⟩
    by_cases e : b = g
    · rw [e, hx]; exact (h1.ob 0 _ rfl).2
    · exact (h1.kept b ⟨hb, e⟩).2
  · exact h2.2
open Go.Shelf in
def Tryd.laysM171_ren : Go.Shelf.Ren := ⟨fun | 171 => 27 | 243 => 42 | 246 => 54 | 283 => 74 | 284 => 75 | 285 => 76 | 286 => 77 | 129 => 67 | 317 => 89 | 318 => 90 | 319 => 91 | 320 => 92 | 337 => 99 | 338 => 100 | n => n, fun | 3 => 3 | 9 => 9 | 2 => 2 | 4 => 4 | 171 => 114 | 0 => 0 | 53 => 109 | 37 => 64 | 5 => 5 | 173 => 116 | 212 => 131 | 51 => 107 | 20 => 20 | 213 => 132 | 46 => 88 | 232 => 147 | 233 => 148 | n => n, fun | 17 => 1 | 18 => 4 | 19 => 5 | n => n⟩
theorem Tryd.laysM171 : Go.Proofs.LaysM.n171 Tryd.prog Tryd.laysM171_ren := {
  mixed := by kernel_rfl,
  f129 := Tryd.func67.trans (congrArg some (by kernel_rfl)),
  f171 := Tryd.func27.trans (congrArg some (by kernel_rfl)),
  f243 := Tryd.func42.trans (congrArg some (by kernel_rfl)),
  f246 := Tryd.func54.trans (congrArg some (by kernel_rfl)),
  f283 := Tryd.func74.trans (congrArg some (by kernel_rfl)),
  f284 := Tryd.func75.trans (congrArg some (by kernel_rfl)),
  f285 := Tryd.func76.trans (congrArg some (by kernel_rfl)),
  f286 := Tryd.func77.trans (congrArg some (by kernel_rfl)),
  f317 := Tryd.func89.trans (congrArg some (by kernel_rfl)),
  f318 := Tryd.func90.trans (congrArg some (by kernel_rfl)),
  f319 := Tryd.func91.trans (congrArg some (by kernel_rfl)),
  f320 := Tryd.func92.trans (congrArg some (by kernel_rfl)),
  f337 := Tryd.func99.trans (congrArg some (by kernel_rfl)),
  f338 := Tryd.func100.trans (congrArg some (by kernel_rfl)),
  t0 := Tryd.underlying0,
  a0 := Tryd.isAgg0,
  z0 := Tryd.sizeOf0,
  v0 := Tryd.zeroValue0,
  t2 := Tryd.underlying2,
  a2 := Tryd.isAgg2,
  z2 := Tryd.sizeOf2,
  v2 := Tryd.zeroValue2,
  t3 := Tryd.underlying3,
  a3 := Tryd.isAgg3,
  z3 := Tryd.sizeOf3,
  v3 := Tryd.zeroValue3,
  t4 := Tryd.underlying4,
  a4 := Tryd.isAgg4,
  z4 := Tryd.sizeOf4,
  v4 := Tryd.zeroValue4,
  t5 := Tryd.underlying5,
  a5 := Tryd.isAgg5,
  z5 := Tryd.sizeOf5,
  v5 := Tryd.zeroValue5,
  t9 := Tryd.underlying9,
  a9 := Tryd.isAgg9,
  z9 := Tryd.sizeOf9,
  v9 := Tryd.zeroValue9,
  t20 := Tryd.underlying20,
  a20 := Tryd.isAgg20,
  z20 := Tryd.sizeOf20,
  v20 := Tryd.zeroValue20,
  t37 := Tryd.underlying64,
  a37 := Tryd.isAgg64,
  z37 := Tryd.sizeOf64,
  v37 := Tryd.zeroValue64,
  t46 := Tryd.underlying88,
  a46 := Tryd.isAgg88,
  z46 := Tryd.sizeOf88,
  v46 := Tryd.zeroValue88,
  t51 := Tryd.underlying107,
  a51 := Tryd.isAgg107,
  z51 := Tryd.sizeOf107,
  v51 := Tryd.zeroValue107,
  t53 := Tryd.underlying109,
  a53 := Tryd.isAgg109,
  z53 := Tryd.sizeOf109,
  v53 := Tryd.zeroValue109,
  t171 := Tryd.underlying114,
  a171 := Tryd.isAgg114,
  z171 := Tryd.sizeOf114,
  v171 := Tryd.zeroValue114,
  t173 := Tryd.underlying116,
  a173 := Tryd.isAgg116,
  z173 := Tryd.sizeOf116,
  v173 := Tryd.zeroValue116,
  t212 := Tryd.underlying131,
  a212 := Tryd.isAgg131,
  z212 := Tryd.sizeOf131,
  v212 := Tryd.zeroValue131,
  t213 := Tryd.underlying132,
  a213 := Tryd.isAgg132,
  z213 := Tryd.sizeOf132,
  t232 := Tryd.underlying147,
  a232 := Tryd.isAgg147,
  z232 := Tryd.sizeOf147,
  v232 := Tryd.zeroValue147,
  t233 := Tryd.underlying148,
  a233 := Tryd.isAgg148,
  z233 := Tryd.sizeOf148,
  v233 := Tryd.zeroValue148,
  g17 := by kernel_rfl,
  g18 := by kernel_rfl,
  g19 := by kernel_rfl,
  i0 := by kernel_rfl,
  i2 := by kernel_rfl,
  i3 := by kernel_rfl,
  i4 := by kernel_rfl,
  i5 := by kernel_rfl,
  i9 := by kernel_rfl,
  i20 := by kernel_rfl,
  i37 := by kernel_rfl,
  i46 := by kernel_rfl,
  i51 := by kernel_rfl,
  i53 := by kernel_rfl,
  i171 := by kernel_rfl,
  i173 := by kernel_rfl,
  i212 := by kernel_rfl,
  i232 := by kernel_rfl,
  i233 := by kernel_rfl,
  m17 := by kernel_rfl,
  m18 := by kernel_rfl,
  m19 := by kernel_rfl }
theorem sJ {g : Nat} {x : Obj} (hx : POW Tryd.prog g x) (n : Int) (h0 : 0 ≤ n) (h1 : n < 128) : cH Tryd.prog [.fact g x] 27 [.one (.int .i64 n)] { av := .one (.str (Lib.decDigits n.toNat)), fp := [0] } := by
  refine ⟨⟨Tryd.f27, Tryd.func27, by kernel_rfl, by kernel_rfl⟩, fun C L σ w vs hP hi ha hfp hlen => ?_⟩
  cases vs with
  | nil => exact ha.elim
  | cons v vs =>
  cases vs with
  | cons _ _ => exact ha.2.elim
  | nil =>
  have e1 : v = .int .i64 n := ha.1.2
  subst e1
  obtain ⟨hx1, t, z, hx2⟩ := hx
  have hL : L[0]? = some (.fact g x) := hfp 0 (List.mem_singleton.2 rfl)
  have hob := (hi.ob 0 _ hL).2
  have htab : Lib.TabIs Tryd.prog w "internal/strconv.uint64pow10" .u64 Lib.pow10Tab := by
    unfold Lib.TabIs World.var?
    rw [hx1, Option.bind_some, hob, hx2]
  have h := Any.strconv_Itoa Tryd.laysM171 n (by omega) (by omega) w htab
  refine Calls.mono h fun e w' hh => ?_
  obtain ⟨e2, k, os, rfl⟩ := hh
  refine ⟨_, e2, fG hi ?_ rfl rfl rfl (fun b hb => ?_) fun _ _ => ?_⟩
  · show w.heap.size ≤ (w.heap ++ os).size
    rw [Array.size_append]; omega
  · show (w.heap ++ os)[b]? = w.heap[b]?
    rw [Array.getElem?_append_left hb]
  · obtain ⟨m, rfl⟩ := Int.eq_ofNat_of_zero_le h0
    rw [Lib.itoa_nonneg]
    exact ⟨rfl, rfl⟩
theorem mT  : bP Tryd.prog 15 [] (eh.av) := by
 refine aT Tryd.func15 rfl (by kernel_rfl) (Nat.le_of_ble_eq_true rfl) rfl fun C hP hN hB => ?_
 replace hN : C.N = 13 := hN
 simp only [aV, M]
 refine ad fun _ k1 => ?_
 refine ag hP hN rfl ?_
 (refine ab rfl fun _ k0 => ?_; simp only [zO, zT, acs, reduceCtorEq, O, M, V, aa, Z, Y, eh, Mdl.av, Mdl.cs]; (repeat refine an ?_); (try refine .inl ?_); apply k0; clear k0; simp only [zP, M])
 refine af ?_
 apply k1; clear k1; refine kp [0] ?_
 refine ad fun _ k2 => ?_
 refine ag hP hN rfl ?_
 iterate 13 (refine ab rfl fun _ k0 => ?_; simp only [zO, zT, acs, reduceCtorEq, O, M, V, aa, Z, Y, eh, Mdl.av, Mdl.cs]; (repeat refine an ?_); (try refine .inl ?_); apply k0; clear k0; simp only [zP, M])
 refine af ?_
 apply k2; clear k2; refine kp [0] ?_
 refine au ?_
 refine ⟨nr, _, rfl, ?_⟩; simp only [zF, zP, O, M, eh, Mdl.av, Mdl.cs]
 refine VLE.of_eq ?_
 rfl
section
open Go.RowKit
def ITC (F : Fence) (n : Nat) (P : Program) (gf : Nat) (lb : Array Value) (encs : Nat → Array Value) (fin : Nat → Prop) (Bx : Nat → World → Prop) (stp : Nat → World → World) : Prop :=
  ∀ (l : Nat) (J JY Jx : Nat → World → Prop) (W : World), (∀ k W, J k W → Bx k W) → (∀ k W, JY k W → Bx k W) → (∀ k W, JY k W → J (k + 1) (stp k W)) →
    (∀ k W, J k W → ¬ fin k → YieldAt F (n - 1) P l (encs k) W fun e W' => (e = .returned (.bool true) ∧ JY k W') ∨ (e = .returned (.bool false) ∧ Jx k W')) → J 0 W →
    CallsIn F n P gf (#[.func (.yield l) #[] #[]] ++ lb) W fun e W' => (∃ v, e = .returned v) ∧ ((∃ k, fin k ∧ J k W') ∨ (∃ k, ¬ fin k ∧ Jx k W'))
def uj (D : Nat) (IY : Nat → World → Prop) (Ix : Code → Nat → World → Prop) (k : Nat) (W : World) : Go.Exit → Act → World → Prop
  | .normal, _, W' => (W'.heap[D]? = W.heap[D]? ∧ W'.heap[D + 1]? = W.heap[D + 1]?) ∧ IY k W'
  | .ret, _, W' => (W'.heap[D]? = W.heap[D]? ∧ W'.heap[D + 1]? = W.heap[D + 1]?) ∧ Ix .ret k W'
  | _, _, _ => False
theorem nH {F : Fence} {n : Nat} {P : Program} {g : Operand} {ps : Array Tmp} {assign body : Code} {Q : Go.Exit → Act → World → Prop} {a : Act} {w : World}
    (hro : F.round = none) (h1 : 1 ≤ n) {gf : Nat} {lb : Array Value} (hg : a.eval g = .func (.func gf) #[] lb) (hFg : F.fn gf) (eg : ∀ args w, (callFunc gf args).run P w = .ok (.enter gf args) w)
    {encs : Nat → Array Value} {fin : Nat → Prop} {Bx : Nat → World → Prop} {stp : Nat → World → World} (hit : ITC F (n - 1) P gf lb encs fin Bx stp) (hps : ∀ k, (encs k).size = ps.size)
    (hstp : ∀ k W b, w.heap.size ≤ b → (stp k W).heap[b]? = W.heap[b]?)
    (I IY : Nat → World → Prop) (Ix : Code → Nat → World → Prop) (hIb : ∀ k W, I k W → Bx k W) (hYb : ∀ k W, IY k W → Bx k W) (hst : ∀ k W, IY k W → I (k + 1) (stp k W))
    (hIp : ∀ k W r, I k W → w.heap.size + 1 < W.heap.size → I k (W.putObj (w.heap.size + 1) (.loop r))) (hYp : ∀ k W r, IY k W → w.heap.size + 1 < W.heap.size → IY k (W.putObj (w.heap.size + 1) (.loop r))) (hXp : ∀ c k W r, Ix c k W → w.heap.size + 1 < W.heap.size → Ix c k (W.putObj (w.heap.size + 1) (.loop r)))
    (h0 : ∀ r, I 0 ((w.alloc (.deferred (some []))).alloc (.loop r))) (a₁ : Nat → Act)
    (hassign : ∀ (l : Nat) (k : Nat) (W : World) (K : Act → World → Prop), K (a₁ k) W →
      assign.wpIn (F.inRound l) (n - 1 - 1) P (Exit.then K (fun _ _ _ => False)) { tmps := (ps.zip (encs k)).foldl (fun t (p, v) => t.setIfInBounds p v) a.tmps, defers := [] } W)
    (hbody : ∀ (k : Nat) (W : World), I k W → ¬ fin k → body.wpIn (F.inRound (w.heap.size + 1)) (n - 1 - 1) P (uj w.heap.size IY Ix k W) (a₁ k) W)
    (hdone : ∀ (k : Nat) (W : World), fin k → I k W → W.heap[w.heap.size]? = some (.deferred (some [])) → Q .normal { a with defers := { target := .collected w.heap.size, args := #[] } :: a.defers } W)
    (hstop : ∀ (c : Code) (k : Nat) (W : World), ¬ fin k → Ix c k W → W.heap[w.heap.size]? = some (.deferred (some [])) → c.wpIn F n P Q { a with defers := { target := .collected w.heap.size, args := #[] } :: a.defers } W) :
    (Code.rangeFunc g ps assign body).wpIn F n P Q a w := by
  refine wpIn_rangeFunc ?_
  intro fn hfn
  rw [hro]
  obtain ⟨rec, hrec⟩ : ∃ rec : LoopState → Option Code → Loop, rec = fun st pe => { state := st, pending := pe, fn, tmps := a.tmps, params := ps, assign, body, defers := w.heap.size } := ⟨_, rfl⟩
  obtain ⟨W1, hW1⟩ : ∃ W1, (w.alloc (.deferred (some []))).alloc (.loop (rec .ready none)) = W1 := ⟨_, rfl⟩
  have hL1 : W1.heap[w.heap.size + 1]? = some (.loop (rec .ready none)) := by
    rw [← hW1]; have := World.alloc_heap_new (w.alloc (.deferred (some []))) (.loop (rec .ready none)); rwa [World.size_alloc] at this
  have k1 : W1.heap[w.heap.size]? = some (.deferred (some [])) := by
    rw [← hW1]; exact (Below.heap_alloc _ _ _ (by simp)).trans (World.alloc_heap_new w _)
  have hI1 : I 0 W1 := by rw [← hW1]; exact h0 _
  refine ⟨w.heap.size + 1, [{ target := .collected w.heap.size, args := #[] }], W1, { target := .fn (.func gf) lb, args := #[.func (.yield (w.heap.size + 1)) #[] #[]] }, W1, gf,
    #[.func (.yield (w.heap.size + 1)) #[] #[]] ++ lb, W1, ?_, ?_, ?_, ?_, fun _ => h1, ?_⟩
  · rw [← hW1, hrec]; exact run_enterLoop_outer _ _ _ _ _
  · simp only [resolve, hg]
    simp [go_sem]
  · intro f' hf'; simp [Target.leads] at hf'; subst hf'; exact hFg
  · simp [invoke, go_sem, eg]
  · refine (hit (w.heap.size + 1)
      (fun k W => I k W ∧ W.heap[w.heap.size + 1]? = some (.loop (rec .ready none)) ∧ W.heap[w.heap.size]? = some (.deferred (some [])))
      (fun k W => IY k W ∧ W.heap[w.heap.size + 1]? = some (.loop (rec .ready none)) ∧ W.heap[w.heap.size]? = some (.deferred (some [])))
      (fun k W => ∃ c, Ix c k W ∧ W.heap[w.heap.size + 1]? = some (.loop (rec .done (some c))) ∧ W.heap[w.heap.size]? = some (.deferred (some [])))
      W1 (fun k W h => hIb k W h.1) (fun k W h => hYb k W h.1) (fun k W h => ⟨hst k W h.1, (hstp k W _ (Nat.le_succ _)).trans h.2.1, (hstp k W _ (Nat.le_refl _)).trans h.2.2⟩) ?_ ⟨hI1, hL1, k1⟩).mono ?_
    · rintro k W ⟨hi, hl, hk⟩ hnf
      have hlt : w.heap.size + 1 < W.heap.size := (Array.getElem?_eq_some_iff.1 hl).1
      have hy := run_yield (P := P) (args := encs k) hl (by rw [hrec]; exact hps k)
      rw [hrec] at hy
      refine ⟨fn, _, assign, body, hy, roundIn_of_wpIn hfn (hassign _ k W _ ?_)⟩
      clear hy
      refine ⟨_, run_beginRound hl (by rw [hrec]), ?_⟩
      have hl2 : (W.putObj (w.heap.size + 1) (.loop { rec .ready none with state := .busy })).heap[w.heap.size + 1]? = some (.loop { rec .ready none with state := .busy }) := World.putObj_heap_same hlt
      have hk2 : (W.putObj (w.heap.size + 1) (.loop { rec .ready none with state := .busy })).heap[w.heap.size]? = some (.deferred (some [])) := (World.putObj_heap_other (by omega)).trans hk
      refine wpIn_mono (hbody k _ (hIp k W _ hi hlt) hnf) ?_
      have fin2 : ∀ (jump : Option Code) (W3 : World), (W3.heap[w.heap.size]? = (W.putObj (w.heap.size + 1) (.loop { rec .ready none with state := .busy })).heap[w.heap.size]? ∧ W3.heap[w.heap.size + 1]? = (W.putObj (w.heap.size + 1) (.loop { rec .ready none with state := .busy })).heap[w.heap.size + 1]?) →
          w.heap.size + 1 < W3.heap.size ∧
          (Instr.endRound (w.heap.size + 1) jump).run P W3 = .ok (.bool jump.isNone) (W3.putObj (w.heap.size + 1) (.loop (rec (if jump.isNone then .ready else .done) jump))) ∧
          (W3.putObj (w.heap.size + 1) (.loop (rec (if jump.isNone then .ready else .done) jump))).heap[w.heap.size + 1]? = some (.loop (rec (if jump.isNone then .ready else .done) jump)) ∧
          (W3.putObj (w.heap.size + 1) (.loop (rec (if jump.isNone then .ready else .done) jump))).heap[w.heap.size]? = some (.deferred (some [])) := fun jump W3 hk3 => by
        have hl3 := hk3.2.trans hl2
        have := run_endRound (P := P) jump hl3
        rw [hrec] at this ⊢
        have hlt3 := (Array.getElem?_eq_some_iff.1 hl3).1
        exact ⟨hlt3, this, World.putObj_heap_same hlt3, (World.putObj_heap_other (by omega)).trans (hk3.1.trans hk2)⟩
      rintro e a3 W3 hp
      cases e with
      | normal =>
        obtain ⟨hk3, hi3⟩ := hp
        obtain ⟨hlt3, hr, hl4, hk4⟩ := fin2 none W3 hk3
        exact ⟨_, _, hr, .inl ⟨rfl, hYp k W3 _ hi3 hlt3, hl4, hk4⟩⟩
      | ret =>
        obtain ⟨hk3, hi3⟩ := hp
        obtain ⟨hlt3, hr, hl4, hk4⟩ := fin2 (some .ret) W3 hk3
        exact ⟨_, _, hr, .inr ⟨rfl, .ret, hXp _ k W3 _ hi3 hlt3, hl4, hk4⟩⟩
      | exit id => exact hp.elim
      | goto t => exact hp.elim
      | panic ch => exact hp.elim
      | outgrown => exact hp.elim
    · rintro e W2 ⟨⟨v, rfl⟩, (⟨k, hf, hi, hl, hk⟩ | ⟨k, hf, c, hi, hl, hk⟩)⟩
      · have hlt := (Array.getElem?_eq_some_iff.1 hl).1
        exact ⟨none, _, by have := run_endLoop (P := P) hl (by rw [hrec]; simp); rw [hrec] at this; exact this, hdone k _ hf (hIp k W2 _ hi hlt) ((World.putObj_heap_other (by omega)).trans hk)⟩
      · have hlt := (Array.getElem?_eq_some_iff.1 hl).1
        exact ⟨some c, _, by have := run_endLoop (P := P) hl (by rw [hrec]; simp); rw [hrec] at this; exact this, hstop c k _ hf (hXp c k W2 _ hi hlt) ((World.putObj_heap_other (by omega)).trans hk)⟩
end
open Go.Shelf in
def Tryd.lays137_ren : Go.Shelf.Ren := ⟨fun | 137 => 35 | 217 => 48 | 266 => 68 | n => n, fun | 9 => 9 | 5 => 5 | 3 => 3 | n => n, fun | n => n⟩
theorem Tryd.lays137 : Go.Proofs.Lays.n137 Tryd.prog Tryd.lays137_ren := {
  mixed := by kernel_rfl,
  f137 := Tryd.func35.trans (congrArg some (by kernel_rfl)),
  f217 := Tryd.func48.trans (congrArg some (by kernel_rfl)),
  f266 := Tryd.func68.trans (congrArg some (by kernel_rfl)),
  t3 := Tryd.underlying3,
  a3 := Tryd.isAgg3,
  z3 := Tryd.sizeOf3,
  v3 := Tryd.zeroValue3,
  t5 := Tryd.underlying5,
  a5 := Tryd.isAgg5,
  z5 := Tryd.sizeOf5,
  v5 := Tryd.zeroValue5,
  t9 := Tryd.underlying9,
  a9 := Tryd.isAgg9,
  z9 := Tryd.sizeOf9,
  v9 := Tryd.zeroValue9 }
theorem tB (s : List UInt8) : bP Tryd.prog 35 [.one (.str s), .one (.int .u8 10)] (.one (.int .i64 (Lib.indexByte s 10))) := by
  refine ⟨⟨Tryd.f35, Tryd.func35, by kernel_rfl, by kernel_rfl⟩, fun C L σ w vs hP hi ha => ?_⟩
  match vs, ha with
  | [v1, v2], ⟨h1, h2, _⟩ =>
  have e1 : v1 = .string ⟨s.toArray⟩ := h1.2
  have e2 := h2.2
  subst e1
  simp only [RC0] at e2
  subst e2
  refine Calls.mono (Any.strings_IndexByte Tryd.lays137 ⟨s.toArray⟩ 10 w) fun e w' hh => ?_
  obtain ⟨e1, e2⟩ := hh
  subst e2
  exact ⟨_, e1, MORE.refl _, rfl, rfl⟩
section
open Go.RowKit Go.Shelf
attribute [local go_sem] Oper.semAt_some
set_option maxHeartbeats 2000000 in
theorem oU (n : Nat) (hn : 1 ≤ n) (s : Bs) (hs : s.length ≤ 1048576) (B : Nat) : ITC Fence.wide n Tryd.prog 34 #[.pointer (some ⟨B, 0, none⟩)] (fun k => #[.int .i64 ((k : Int) + 1), .string ⟨(bV s k).toArray⟩]) (fun k => aN s k = [])
    (fun k W => W.heap[B]? = some (.cells #[.string ⟨(aN s k).toArray⟩] 9 (0, 0))) (fun k W => W.setCell ⟨B, 0, none⟩ (.string ⟨(aN s (k + 1)).toArray⟩)) := by
  intro l J JY Jx W hJb hYb hst hY h0
  have w35 : Fence.wide.fn 35 := trivial
  refine callsIn_of_wp Tryd.func34 rfl trivial ?_ rfl
  simp only [Tryd.ntmps34, List.size_toArray, aj, aq, M, Y, Array.replicate_succ, Array.replicate_zero, List.push_toArray, List.append_toArray, ar, ak]
  gi_wp2
  gi_loopw [3] (fun i wr => ∃ k : Nat, i = .int .i64 ((k : Int) + 1) ∧ J k wr) (fun i _ => s.length + 2 - (intOf i).toNat)
  case atStart => exact ⟨0, rfl, h0⟩
  case round =>
    obtain ⟨k, rfl, hJ⟩ := hrel
    have hb := hJb _ _ hJ
    have hrl := ov s k
    have cB : wr.cell? ⟨B, 0, none⟩ = some (.string ⟨(aN s k).toArray⟩) := by simp [World.cell?, hb]
    by_cases he : aN s k = []
    · gi_wp2
      go_end0
      exact ⟨⟨_, rfl⟩, .inl ⟨k, he, hJ⟩⟩
    · have he2 : (!(aN s k).isEmpty) = true := by cases h : aN s k with
        | nil => exact absurd h he
        | cons _ _ => rfl
      have hix := callsIn_wide (n := n - 1).2 (show Calls Tryd.prog 35 #[.string ⟨(aN s k).toArray⟩, .int .u8 10] wr fun e w' => e = .returned (.int .i64 (Lib.indexByte (aN s k) 10)) ∧ w' = wr from Any.strings_IndexByte Tryd.lays137 ⟨(aN s k).toArray⟩ 10 wr)
      obtain ⟨fn, tmps, assign, body, hy, hR⟩ := hY k wr hJ he
      have hk2 := gx s k he
      by_cases hi : Lib.indexByte (aN s k) 10 < 0
      · have hi2 : Lib.indexByte (aN s k) 10 = -1 := by have := Lib.indexByte_ge (aN s k) 10; omega
        have hE : lnE (aN s k) = (aN s k).length := if_pos hi
        have hx1 : (⟨(aN s k).toArray⟩ : ByteArray).extract 0 (aN s k).length = ⟨(bV s k).toArray⟩ := by rw [pY]; unfold bV; rw [hE]
        have hx2 : (⟨(aN s k).toArray⟩ : ByteArray).extract (aN s k).length (aN s k).length = ⟨(aN s (k + 1)).toArray⟩ := by rw [oX]; show _ = (⟨((aN s k).drop (lnE (aN s k))).toArray⟩ : ByteArray); rw [hE]
        have hz : (⟨(aN s (k + 1)).toArray⟩ : ByteArray) = ByteArray.empty := by show (⟨((aN s k).drop (lnE (aN s k))).toArray⟩ : ByteArray) = _; rw [hE, List.drop_length]; rfl
        rw [hi2] at hix
        clear hi hi2 hE
        gi_wp2_with (gi_at_call 35; refine hix.mono ?_; rintro e w' ⟨rfl, hw⟩; rw [hw])
        refine hR.mono ?_
        rintro e W3 (⟨rfl, hJ3⟩ | ⟨rfl, hJx⟩)
        · have b3 := hYb _ _ hJ3
          have c3 : W3.cell? ⟨B, 0, none⟩ = some (.string ⟨(aN s k).toArray⟩) := by simp [World.cell?, b3]
          have f3 : W3.frozen? ⟨B, 0, none⟩ = false := by simp [World.frozen?, b3]
          have hJ4 := hst k W3 hJ3
          try rw [hz] at hJ4
          clear b3 hJ3
          gi_wp2
          go_roundw
          case rel => exact ⟨k + 1, by simp, hJ4⟩
          case measure => simp [intOf]; omega
        · gi_wp2
          refine bodyPost_ret (results_none rfl _ _ _) rfl ?_
          exact ⟨⟨_, rfl⟩, .inr ⟨k, he, hJx⟩⟩
      · have q1 := (gp (s := aN s k) (c := 10) (by omega)).1
        obtain ⟨i, hj, hi0, hE, hel⟩ : ∃ i : Int, Lib.indexByte (aN s k) 10 = i ∧ 0 ≤ i ∧ lnE (aN s k) = (i + 1).toNat ∧ i + 1 ≤ ((aN s k).length : Int) :=
          ⟨Lib.indexByte (aN s k) 10, rfl, by omega, by unfold lnE; rw [if_neg hi]; omega, by omega⟩
        have hx1 : (⟨(aN s k).toArray⟩ : ByteArray).extract 0 (i + 1).toNat = ⟨(bV s k).toArray⟩ := by rw [pY]; unfold bV; rw [hE]
        have hx2 : (⟨(aN s k).toArray⟩ : ByteArray).extract (i + 1).toNat (aN s k).length = ⟨(aN s (k + 1)).toArray⟩ := by rw [oX]; show _ = (⟨((aN s k).drop (lnE (aN s k))).toArray⟩ : ByteArray); rw [hE]
        rw [hj] at hix
        have hi1 : i ≤ 1048575 := by omega
        clear hi hj hE q1
        gi_wp2_with (gi_at_call 35; refine hix.mono ?_; rintro e w' ⟨rfl, hw⟩; rw [hw])
        refine hR.mono ?_
        rintro e W3 (⟨rfl, hJ3⟩ | ⟨rfl, hJx⟩)
        · have b3 := hYb _ _ hJ3
          have c3 : W3.cell? ⟨B, 0, none⟩ = some (.string ⟨(aN s k).toArray⟩) := by simp [World.cell?, b3]
          have f3 : W3.frozen? ⟨B, 0, none⟩ = false := by simp [World.frozen?, b3]
          have hJ4 := hst k W3 hJ3
          try rw [hz] at hJ4
          clear b3 hJ3
          gi_wp2
          go_roundw
          case rel => exact ⟨k + 1, by simp, hJ4⟩
          case measure => simp [intOf]; omega
        · gi_wp2
          refine bodyPost_ret (results_none rfl _ _ _) rfl ?_
          exact ⟨⟨_, rfl⟩, .inr ⟨k, he, hJx⟩⟩
theorem tY (n : Nat) (x : ByteArray) (w : World) :
    CallsIn Fence.wide n Tryd.prog 23 #[.string x] w fun e w' => e = .returned (.func (.func 34) #[] #[.pointer (some ⟨w.heap.size, 0, none⟩)]) ∧ w' = w.alloc (.cells #[.string x] 9) := by
  refine callsIn_of_wp Tryd.func23 rfl trivial ?_ rfl
  simp only [Tryd.ntmps23, List.size_toArray, aj, aq, M, Y, Array.replicate_succ, Array.replicate_zero, List.push_toArray, List.append_toArray, ar, ak]
  gi_wp2
  go_ret
  exact ⟨rfl, rfl⟩
end
theorem rD (s p : Bs) (hs : s.length ≤ 9223372036854775807) : bP Tryd.prog 69 [.one (.str s), .one (.str p)] (.one (.bool (du s p))) := by
 refine aT Tryd.func69 rfl (by kernel_rfl) (Nat.le_of_ble_eq_true rfl) rfl fun C hP hN hB => ?_
 replace hN : C.N = 21 := hN
 simp only [aV, M]
 refine ad fun _ k1 => ?_
 refine ag hP hN rfl ?_
 (refine ab rfl fun _ k0 => ?_; simp only [zO, zT, acs, reduceCtorEq, O, M, V, aa, Z, Y]; (repeat refine an ?_); (try refine .inl ?_); apply k0; clear k0; simp only [zP, M])
 refine af ?_
 apply k1; clear k1; refine kp [0, 1, 4] ?_
 refine ad fun _ k2 => ?_
 refine ag hP hN rfl ?_
 iterate 6 (refine ab rfl fun _ k0 => ?_; simp only [zO, zT, acs, reduceCtorEq, O, M, V, aa, Z, Y]; (repeat refine an ?_); (try refine .inl ?_); apply k0; clear k0; simp only [zP, M])
 refine' ay (want := true) 9 rfl (m := 10) (by simp only [zP, O, M]; exact rfl) (by kernel_rfl) rfl rfl rfl rfl rfl (fun hg3 => ?a3) ?b3 ?c3
 case a3 =>
  have hq3 := hg3; (try simp only [zB, reduceCtorEq] at hg3); simp only [zE]
  iterate 6 (refine aO rfl fun _ k0 => ?_; simp only [zO, zT, acs, reduceCtorEq, O, M, V, aa, Z, Y]; (repeat refine an ?_); (try refine .inl ?_); apply k0; clear k0; simp only [zP, M])
  (refine aO rfl fun _ k0 => ?_; simp only [zE, op1, ev, lkp, di, bz, cz, bnd, Ty.size, reduceCtorEq, O, M, V, aa, Z, Y, Tryd.td9]; (repeat refine an ?_); (try refine .inl ?_); apply k0; clear k0; simp only [zP, M])
  iterate 2 (refine aO rfl fun _ k0 => ?_; simp only [zO, zT, acs, reduceCtorEq, O, M, V, aa, Z, Y]; (repeat refine an ?_); (try refine .inl ?_); apply k0; clear k0; simp only [zP, M])
  (refine ab rfl fun _ k0 => ?_; simp only [zO, zT, acs, reduceCtorEq, O, M, V, aa, Z, Y]; (repeat refine an ?_); (try refine .inl ?_); apply k0; clear k0; simp only [zP, M])
  refine af ?_
  refine ⟨by simp only [zP, O, M]; exact rfl, rfl, ?_, rfl⟩; (repeat refine az rfl ?_); exact aP (by exact rfl) hq3
 case b3 => exact bq
 simp only [aK, aH]
 (refine ab rfl fun _ k0 => ?_; simp only [zO, zT, acs, reduceCtorEq, O, M, V, aa, Z, Y]; (repeat refine an ?_); (try refine .inl ?_); apply k0; clear k0; simp only [zP, M])
 refine af ?_
 apply k2; clear k2; refine kp [0, 1, 4] ?_
 refine au ?_
 refine ⟨nr, _, rfl, ?_⟩; simp only [zF, zP, O, M]
 refine VLE.of_eq ?_
 have e : decide ((p.length : Int) ≤ s.length) = decide (p.length ≤ s.length) := decide_eq_decide.2 Int.ofNat_le
 rw [e, aF, Int.toNat_sub]; rfl
theorem pN (s p : Bs) (hs : s.length ≤ 9223372036854775807) : bP Tryd.prog 49 [.one (.str s), .one (.str p)] (.tup [.one (.str (if du s p = true then s.take (s.length - p.length) else s)), .one (.bool (du s p))]) := by
 refine aT Tryd.func49 rfl (by kernel_rfl) (Nat.le_of_ble_eq_true rfl) rfl fun C hP hN hB => ?_
 replace hN : C.N = 18 := hN
 simp only [aV, M]
 refine ad fun _ k1 => ?_
 refine ag hP hN rfl ?_
 iterate 2 (refine ab rfl fun _ k0 => ?_; simp only [zO, zT, acs, reduceCtorEq, O, M, V, aa, Z, Y]; (repeat refine an ?_); (try refine .inl ?_); apply k0; clear k0; simp only [zP, M])
 refine af ?_
 apply k1; clear k1; refine kp [0, 1, 4, 5] ?_
 refine ad fun _ k2 => ?_
 refine ad fun _ k3 => ?_
 refine ag hP hN rfl ?_
 iterate 2 (refine ab rfl fun _ k0 => ?_; simp only [zO, zT, acs, reduceCtorEq, O, M, V, aa, Z, Y]; (repeat refine an ?_); (try refine .inl ?_); apply k0; clear k0; simp only [zP, M])
 refine ab rfl fun _ k0 => ?_
 refine aw (h := am (rD s p hs)) rfl rfl (by first | exact rfl | (simp only [ev, zP, O, M]; exact rfl)) (by simp only [zV, acs, reduceCtorEq, O, M, V, aa, Z, Y]) ?_
 apply k0; clear k0; simp only [zP, M]
 (refine ab rfl fun _ k0 => ?_; simp only [zO, zT, acs, reduceCtorEq, O, M, V, aa, Z, Y]; (repeat refine an ?_); (try refine .inl ?_); apply k0; clear k0; simp only [zP, M])
 refine af ?_
 apply k3; clear k3; refine kp [0, 1, 4, 5, 9] ?_
 refine cd (fun hc4 => ?_) (fun hc4 => ?_)
 ·(try simp only [zB, reduceCtorEq] at hc4)
  have hsf : du s p = false := by simpa using hc4
  refine ad fun _ k5 => ?_
  refine ag hP hN rfl ?_
  iterate 3 (refine ab rfl fun _ k0 => ?_; simp only [zO, zT, acs, reduceCtorEq, O, M, V, aa, Z, Y]; (repeat refine an ?_); (try refine .inl ?_); apply k0; clear k0; simp only [zP, M])
  refine af ?_
  apply k5; clear k5; refine kp [0, 1, 4, 5, 9] ?_
  refine au ?_
  refine ⟨nr, _, rfl, ?_⟩; simp only [zF, zP, O, M]
  refine VLE.of_eq ?_
  simp only [hsf, if_true, List.drop_zero, Int.toNat_sub, Int.toNat_zero, Bool.false_eq_true, if_false]
 (try simp only [zB, reduceCtorEq] at hc4)
 have hsf : du s p = true := by simpa using hc4
 have hle : p.length ≤ s.length := by unfold du at hsf; simp only [Bool.and_eq_true, decide_eq_true_eq] at hsf; exact hsf.1
 refine ax ?_
 apply k2; clear k2; refine kp [0, 1, 4, 5, 9] ?_
 refine ad fun _ k6 => ?_
 refine ag hP hN rfl ?_
 iterate 6 (refine ab rfl fun _ k0 => ?_; simp only [zO, zT, acs, reduceCtorEq, O, M, V, aa, Z, Y]; (repeat refine an ?_); (try refine .inl ?_); apply k0; clear k0; simp only [zP, M])
 (refine ab rfl fun _ k0 => ?_; simp only [zE, op1, ev, lkp, di, bz, cX, jC, jk, ci, cP, fP, Nat.div_one, dL, cS, Ty.size, aZ, dite_true, fI, bE, dk, eE, cZ, dV, cz, bnd, reduceCtorEq, O, M, V, aa, Z, Y, Tryd.td3, Tryd.td4, Tryd.td9]; (repeat refine an ?_); (try refine .inl ?_); apply k0; clear k0; simp only [zP, M])
 iterate 2 (refine ab rfl fun _ k0 => ?_; simp only [zO, zT, acs, reduceCtorEq, O, M, V, aa, Z, Y]; (repeat refine an ?_); (try refine .inl ?_); apply k0; clear k0; simp only [zP, M])
 refine af ?_
 apply k6; clear k6; refine kp [0, 1, 4, 5, 9] ?_
 refine au ?_
 refine ⟨nr, _, rfl, ?_⟩; simp only [zF, zP, O, M]
 refine VLE.of_eq ?_
 simp only [hsf, if_true, List.drop_zero, Int.toNat_sub, Int.toNat_zero, Bool.false_eq_true, if_false]
theorem rb (s p : Bs) (hs : s.length ≤ 9223372036854775807) : bP Tryd.prog 36 [.one (.str s), .one (.str p)] (.tup [.one (.str (if du s p = true then s.take (s.length - p.length) else s)), .one (.bool (du s p))]) := by
 refine aT Tryd.func36 rfl (by kernel_rfl) (Nat.le_of_ble_eq_true rfl) rfl fun C hP hN hB => ?_
 replace hN : C.N = 11 := hN
 simp only [aV, M]
 refine ad fun _ k1 => ?_
 refine ag hP hN rfl ?_
 iterate 2 (refine ab rfl fun _ k0 => ?_; simp only [zO, zT, acs, reduceCtorEq, O, M, V, aa, Z, Y]; (repeat refine an ?_); (try refine .inl ?_); apply k0; clear k0; simp only [zP, M])
 refine af ?_
 apply k1; clear k1; refine kp [0, 1, 4, 5] ?_
 refine ad fun _ k2 => ?_
 refine ag hP hN rfl ?_
 iterate 2 (refine ab rfl fun _ k0 => ?_; simp only [zO, zT, acs, reduceCtorEq, O, M, V, aa, Z, Y]; (repeat refine an ?_); (try refine .inl ?_); apply k0; clear k0; simp only [zP, M])
 refine ab rfl fun _ k0 => ?_
 refine aw (h := am (pN s p hs)) rfl rfl (by first | exact rfl | (simp only [ev, zP, O, M]; exact rfl)) (by simp only [zV, acs, reduceCtorEq, O, M, V, aa, Z, Y]) ?_
 apply k0; clear k0; simp only [zP, M]
 iterate 4 (refine ab rfl fun _ k0 => ?_; simp only [zO, zT, acs, reduceCtorEq, O, M, V, aa, Z, Y]; (repeat refine an ?_); (try refine .inl ?_); apply k0; clear k0; simp only [zP, M])
 refine af ?_
 apply k2; clear k2; refine kp [0, 1, 4, 5] ?_
 refine au ?_
 refine ⟨nr, _, rfl, ?_⟩; simp only [zF, zP, O, M]
 refine VLE.of_eq ?_
 rfl
theorem kh (s : Bs) : bP Tryd.prog 18 [.one (.str s)] (.one (.bool (aY s))) := by
 refine aT Tryd.func18 rfl (by kernel_rfl) (Nat.le_of_ble_eq_true rfl) rfl fun C hP hN hB => ?_
 replace hN : C.N = 55 := hN
 simp only [aV, M]
 refine ad fun _ k1 => ?_
 refine ag hP hN rfl ?_
 (refine ab rfl fun _ k0 => ?_; simp only [zO, zT, acs, reduceCtorEq, O, M, V, aa, Z, Y]; (repeat refine an ?_); (try refine .inl ?_); apply k0; clear k0; simp only [zP, M])
 refine af ?_
 apply k1; clear k1; refine kp [0, 2] ?_
 refine ad fun _ k2 => ?_
 refine ad fun _ k3 => ?_
 refine ag hP hN rfl ?_
 (refine ab rfl fun _ k0 => ?_; simp only [zO, zT, acs, reduceCtorEq, O, M, V, aa, Z, Y]; (repeat refine an ?_); (try refine .inl ?_); apply k0; clear k0; simp only [zP, M])
 (refine ab rfl fun _ k0 => ?_; simp only [zE, op1, ev, lkp, di, bz, lC, reduceCtorEq, O, M, V, aa, Z, Y, Tryd.td9]; (repeat refine an ?_); (try refine .inl ?_); apply k0; clear k0; simp only [zP, M])
 refine af ?_
 apply k3; clear k3; refine kp [0, 2, 7] ?_
 refine aG ?_
 refine bD (fun n4 s4 => ∃ (k : Nat), (k ≤ s.length) ∧ (∀ j, j < k → okI (bt s j)) ∧ n4 = s.length - k ∧ s4 = { env := [(0, .one (.str s)), (2, .one (.bool false)), (7, .one (.ptr 0 0 0 0))], L := [.itr s k] }) ?_ ?_
 ·exact ⟨_, _, aL [0, 2, 7], 0, Nat.zero_le _, fun q hq => by omega, rfl, rfl⟩
 rintro n4 s4 ⟨k, hk, hI, rfl, rfl⟩
 refine ad fun _ k5 => ?_
 refine ag hP hN rfl ?_
 (refine ab rfl fun _ k0 => ?_; simp only [zE, op1, ev, lkp, di, bz, nj, eH, reduceCtorEq, O, M, V, aa, Z, Y, Tryd.td4]; (repeat refine an ?_); (try refine .inl ?_); apply k0; clear k0; simp only [zP, M])
 (refine ab rfl fun _ k0 => ?_; simp only [zO, zT, acs, reduceCtorEq, O, M, V, aa, Z, Y]; (repeat refine an ?_); (try refine .inl ?_); apply k0; clear k0; simp only [zP, M])
 refine af ?_
 apply k5; clear k5; refine kp [0, 2, 7, 8, 9] ?_
 refine ad fun _ k6 => ?_
 refine cd (fun hc7 => ?_) (fun hc7 => ?_)
 ·(try simp only [zB, reduceCtorEq] at hc7)
  have hpos : k < s.length := hc7
  refine ax ?_
  apply k6; clear k6; refine kp [0, 2, 7, 8, 9] ?_
  refine aG ?_
  refine ad fun _ k8 => ?_
  refine ag hP hN rfl ?_
  iterate 2 (refine ab rfl fun _ k0 => ?_; simp only [zO, zT, acs, reduceCtorEq, O, M, V, aa, Z, Y, kM, hpos, if_true]; (repeat refine an ?_); (try refine .inl ?_); apply k0; clear k0; simp only [zP, M])
  refine af ?_
  apply k8; clear k8; refine kp [0, 2, 4, 7, 8, 9] ?_
  refine ad fun _ k9 => ?_
  refine ag hP hN rfl ?_
  iterate 3 (refine ab rfl fun _ k0 => ?_; simp only [zO, zT, acs, reduceCtorEq, O, M, V, aa, Z, Y]; (repeat refine an ?_); (try refine .inl ?_); apply k0; clear k0; simp only [zP, M])
  refine' ay (want := true) 2 rfl (m := 13) (by simp only [zP, O, M]; exact rfl) (by kernel_rfl) rfl rfl rfl rfl rfl (fun hg10 => ?a10) ?b10 ?c10
  case a10 =>
   have hq10 := hg10; (try simp only [zB, reduceCtorEq] at hg10); simp only [zE]
   iterate 2 (refine aO rfl fun _ k0 => ?_; simp only [zO, zT, acs, reduceCtorEq, O, M, V, aa, Z, Y]; (repeat refine an ?_); (try refine .inl ?_); apply k0; clear k0; simp only [zP, M])
   (refine ab rfl fun _ k0 => ?_; simp only [zO, zT, acs, reduceCtorEq, O, M, V, aa, Z, Y]; (repeat refine an ?_); (try refine .inl ?_); apply k0; clear k0; simp only [zP, M])
   refine af ?_
   refine ⟨by simp only [zP, O, M]; exact rfl, rfl, ?_, rfl⟩; (repeat refine az rfl ?_); exact aP (by exact rfl) hq10
  case b10 => exact bq
  simp only [aK, aH]
  (refine ab rfl fun _ k0 => ?_; simp only [zO, zT, acs, reduceCtorEq, O, M, V, aa, Z, Y]; (repeat refine an ?_); (try refine .inl ?_); apply k0; clear k0; simp only [zP, M])
  refine' ay (want := false) 6 rfl (m := 17) (by simp only [zP, O, M]; exact rfl) (by kernel_rfl) rfl rfl rfl rfl rfl (fun hg11 => ?a11) ?b11 ?c11
  case a11 =>
   have hq11 := hg11; (try simp only [zB, reduceCtorEq] at hg11); simp only [zE]
   iterate 3 (refine aO rfl fun _ k0 => ?_; simp only [zO, zT, acs, reduceCtorEq, O, M, V, aa, Z, Y]; (repeat refine an ?_); (try refine .inl ?_); apply k0; clear k0; simp only [zP, M])
   refine' ay (want := true) 2 rfl (m := 20) (by simp only [zP, O, M]; exact rfl) (by kernel_rfl) rfl rfl rfl rfl rfl (fun hg12 => ?a12) ?b12 ?c12
   case a12 =>
    have hq12 := hg12; (try simp only [zB, reduceCtorEq] at hg12); simp only [zE]
    iterate 3 (refine aO rfl fun _ k0 => ?_; simp only [zO, zT, acs, reduceCtorEq, O, M, V, aa, Z, Y]; (repeat refine an ?_); (try refine .inl ?_); apply k0; clear k0; simp only [zP, M])
    refine af ?_
    refine ⟨by simp only [zP, O, M]; exact rfl, rfl, ?_, rfl⟩; (repeat refine az rfl ?_); exact aP (by exact rfl) hq12
   case b12 => exact bq
   simp only [aK, aH]
   (refine ab rfl fun _ k0 => ?_; simp only [zO, zT, acs, reduceCtorEq, O, M, V, aa, Z, Y]; (repeat refine an ?_); (try refine .inl ?_); apply k0; clear k0; simp only [zP, M])
   refine af ?_
   refine ⟨by simp only [zP, O, M]; exact rfl, rfl, ?_, rfl⟩; (repeat refine az rfl ?_); exact aP (by exact rfl) hq11
  case b11 => exact bq
  simp only [aK, aH]
  (refine ab rfl fun _ k0 => ?_; simp only [zO, zT, acs, reduceCtorEq, O, M, V, aa, Z, Y]; (repeat refine an ?_); (try refine .inl ?_); apply k0; clear k0; simp only [zP, M])
  refine' ay (want := false) 6 rfl (m := 25) (by simp only [zP, O, M]; exact rfl) (by kernel_rfl) rfl rfl rfl rfl rfl (fun hg13 => ?a13) ?b13 ?c13
  case a13 =>
   have hq13 := hg13; (try simp only [zB, reduceCtorEq] at hg13); simp only [zE]
   iterate 3 (refine aO rfl fun _ k0 => ?_; simp only [zO, zT, acs, reduceCtorEq, O, M, V, aa, Z, Y]; (repeat refine an ?_); (try refine .inl ?_); apply k0; clear k0; simp only [zP, M])
   refine' ay (want := true) 2 rfl (m := 28) (by simp only [zP, O, M]; exact rfl) (by kernel_rfl) rfl rfl rfl rfl rfl (fun hg14 => ?a14) ?b14 ?c14
   case a14 =>
    have hq14 := hg14; (try simp only [zB, reduceCtorEq] at hg14); simp only [zE]
    iterate 3 (refine aO rfl fun _ k0 => ?_; simp only [zO, zT, acs, reduceCtorEq, O, M, V, aa, Z, Y]; (repeat refine an ?_); (try refine .inl ?_); apply k0; clear k0; simp only [zP, M])
    refine af ?_
    refine ⟨by simp only [zP, O, M]; exact rfl, rfl, ?_, rfl⟩; (repeat refine az rfl ?_); exact aP (by exact rfl) hq14
   case b14 => exact bq
   simp only [aK, aH]
   (refine ab rfl fun _ k0 => ?_; simp only [zO, zT, acs, reduceCtorEq, O, M, V, aa, Z, Y]; (repeat refine an ?_); (try refine .inl ?_); apply k0; clear k0; simp only [zP, M])
   refine af ?_
   refine ⟨by simp only [zP, O, M]; exact rfl, rfl, ?_, rfl⟩; (repeat refine az rfl ?_); exact aP (by exact rfl) hq13
  case b13 => exact bq
  simp only [aK, aH]
  (refine ab rfl fun _ k0 => ?_; simp only [zO, zT, acs, reduceCtorEq, O, M, V, aa, Z, Y]; (repeat refine an ?_); (try refine .inl ?_); apply k0; clear k0; simp only [zP, M])
  refine af ?_
  apply k9; clear k9; refine kp [0, 2, 4, 5, 7, 8, 9] ?_
  refine ad fun _ k15 => ?_
  refine ag hP hN rfl ?_
  iterate 3 (refine ab rfl fun _ k0 => ?_; simp only [zO, zT, acs, reduceCtorEq, O, M, V, aa, Z, Y]; (repeat refine an ?_); (try refine .inl ?_); apply k0; clear k0; simp only [zP, M])
  refine' ay (want := true) 2 rfl (m := 35) (by simp only [zP, O, M]; exact rfl) (by kernel_rfl) rfl rfl rfl rfl rfl (fun hg16 => ?a16) ?b16 ?c16
  case a16 =>
   have hq16 := hg16; (try simp only [zB, reduceCtorEq] at hg16); simp only [zE]
   iterate 2 (refine aO rfl fun _ k0 => ?_; simp only [zO, zT, acs, reduceCtorEq, O, M, V, aa, Z, Y]; (repeat refine an ?_); (try refine .inl ?_); apply k0; clear k0; simp only [zP, M])
   (refine ab rfl fun _ k0 => ?_; simp only [zO, zT, acs, reduceCtorEq, O, M, V, aa, Z, Y]; (repeat refine an ?_); (try refine .inl ?_); apply k0; clear k0; simp only [zP, M])
   refine af ?_
   refine ⟨by simp only [zP, O, M]; exact rfl, rfl, ?_, rfl⟩; (repeat refine az rfl ?_); exact aP (by exact rfl) hq16
  case b16 => exact bq
  simp only [aK, aH]
  (refine ab rfl fun _ k0 => ?_; simp only [zO, zT, acs, reduceCtorEq, O, M, V, aa, Z, Y]; (repeat refine an ?_); (try refine .inl ?_); apply k0; clear k0; simp only [zP, M])
  refine' ay (want := true) 2 rfl (m := 39) (by simp only [zP, O, M]; exact rfl) (by kernel_rfl) rfl rfl rfl rfl rfl (fun hg17 => ?a17) ?b17 ?c17
  case a17 =>
   have hq17 := hg17; (try simp only [zB, reduceCtorEq] at hg17); simp only [zE]
   iterate 2 (refine aO rfl fun _ k0 => ?_; simp only [zO, zT, acs, reduceCtorEq, O, M, V, aa, Z, Y]; (repeat refine an ?_); (try refine .inl ?_); apply k0; clear k0; simp only [zP, M])
   (refine ab rfl fun _ k0 => ?_; simp only [zO, zT, acs, reduceCtorEq, O, M, V, aa, Z, Y]; (repeat refine an ?_); (try refine .inl ?_); apply k0; clear k0; simp only [zP, M])
   refine af ?_
   refine ⟨by simp only [zP, O, M]; exact rfl, rfl, ?_, rfl⟩; (repeat refine az rfl ?_); exact aP (by exact rfl) hq17
  case b17 => exact bq
  simp only [aK, aH]
  (refine ab rfl fun _ k0 => ?_; simp only [zO, zT, acs, reduceCtorEq, O, M, V, aa, Z, Y]; (repeat refine an ?_); (try refine .inl ?_); apply k0; clear k0; simp only [zP, M])
  refine' ay (want := true) 2 rfl (m := 43) (by simp only [zP, O, M]; exact rfl) (by kernel_rfl) rfl rfl rfl rfl rfl (fun hg18 => ?a18) ?b18 ?c18
  case a18 =>
   have hq18 := hg18; (try simp only [zB, reduceCtorEq] at hg18); simp only [zE]
   iterate 2 (refine aO rfl fun _ k0 => ?_; simp only [zO, zT, acs, reduceCtorEq, O, M, V, aa, Z, Y]; (repeat refine an ?_); (try refine .inl ?_); apply k0; clear k0; simp only [zP, M])
   (refine ab rfl fun _ k0 => ?_; simp only [zO, zT, acs, reduceCtorEq, O, M, V, aa, Z, Y]; (repeat refine an ?_); (try refine .inl ?_); apply k0; clear k0; simp only [zP, M])
   refine af ?_
   refine ⟨by simp only [zP, O, M]; exact rfl, rfl, ?_, rfl⟩; (repeat refine az rfl ?_); exact aP (by exact rfl) hq18
  case b18 => exact bq
  simp only [aK, aH]
  refine af ?_
  apply k15; clear k15; refine kp [0, 2, 4, 5, 7, 8, 9, 46] ?_
  refine cd (fun hc19 => ?_) (fun hc19 => ?_)
  ·(try simp only [zB, reduceCtorEq] at hc19)
   have ho : ¬ okI (((dec s k).1 : Nat) : Int) := by unfold okI; omega
   refine ad fun _ k20 => ?_
   refine ag hP hN rfl ?_
   (refine ab rfl fun _ k0 => ?_; simp only [zO, zT, acs, reduceCtorEq, O, M, V, aa, Z, Y]; (repeat refine an ?_); (try refine .inl ?_); apply k0; clear k0; simp only [zP, M])
   refine af ?_
   apply k20; clear k20; refine kp [0, 2, 4, 5, 7, 8, 9, 46] ?_
   refine au ?_
   refine ⟨nr, _, rfl, ?_⟩; simp only [zF, zP, O, M]
   refine VLE.of_eq ?_
   refine congrArg (fun b => AV.one (AC.bool b)) ?_
   symm
   first
   | exact m0 hpos (qt ho)
   | exact mS fun j hj => hI j (by omega)
  (try simp only [zB, reduceCtorEq] at hc19)
  have ho : okI (((dec s k).1 : Nat) : Int) := by unfold okI; omega
  refine ax ?_
  have hd := tg ho
  have hn : i4 s k = k + 1 := by unfold i4; rw [if_pos hpos, hd.2]
  refine ⟨_, _, ?_, aL [0, 2, 7], i4 s k, by omega, fun j hj => ?_, rfl, rfl⟩
  · omega
  · by_cases e : j = k
    · rw [e]; exact hd.1
    · exact hI j (by omega)
 (try simp only [zB, reduceCtorEq] at hc7)
 refine bC ?_
 apply k2; clear k2; refine kp [0, 2, 7, 8, 9] ?_
 refine ad fun _ k21 => ?_
 refine ag hP hN rfl ?_
 iterate 4 (refine ab rfl fun _ k0 => ?_; simp only [zO, zT, acs, reduceCtorEq, O, M, V, aa, Z, Y]; (repeat refine an ?_); (try refine .inl ?_); apply k0; clear k0; simp only [zP, M])
 refine' ay (want := true) 3 rfl (m := 50) (by simp only [zP, O, M]; exact rfl) (by kernel_rfl) rfl rfl rfl rfl rfl (fun hg22 => ?a22) ?b22 ?c22
 case a22 =>
  have hq22 := hg22; (try simp only [zB, reduceCtorEq] at hg22); simp only [zE]
  iterate 3 (refine aO rfl fun _ k0 => ?_; simp only [zO, zT, acs, reduceCtorEq, O, M, V, aa, Z, Y]; (repeat refine an ?_); (try refine .inl ?_); apply k0; clear k0; simp only [zP, M])
  (refine ab rfl fun _ k0 => ?_; simp only [zO, zT, acs, reduceCtorEq, O, M, V, aa, Z, Y]; (repeat refine an ?_); (try refine .inl ?_); apply k0; clear k0; simp only [zP, M])
  refine af ?_
  refine ⟨by simp only [zP, O, M]; exact rfl, rfl, ?_, rfl⟩; (repeat refine az rfl ?_); exact aP (by exact rfl) hq22
 case b22 => exact bq
 simp only [aK, aH]
 (refine ab rfl fun _ k0 => ?_; simp only [zO, zT, acs, reduceCtorEq, O, M, V, aa, Z, Y]; (repeat refine an ?_); (try refine .inl ?_); apply k0; clear k0; simp only [zP, M])
 refine af ?_
 apply k21; clear k21; refine kp [0, 2, 7, 8, 9] ?_
 refine au ?_
 refine ⟨nr, _, rfl, ?_⟩; simp only [zF, zP, O, M]
 refine VLE.of_eq ?_
 refine congrArg (fun b => AV.one (AC.bool b)) ?_
 symm
 first
 | exact m0 hpos (qt ho)
 | exact mS fun j hj => hI j (by omega)
theorem fg (xs : List Bs) (x : Bs) : bP Tryd.prog 45 [.one (.list .str xs), .one (.str x)] (.one (.int .i64 (if x ∈ xs then (pos xs x : Int) else -1))) := by
 refine aT Tryd.func45 rfl (by kernel_rfl) (Nat.le_of_ble_eq_true rfl) rfl fun C hP hN hB => ?_
 replace hN : C.N = 19 := hN
 simp only [aV, M]
 refine gl 0 rfl fun hf0 => ?_; simp only [lkp, if_true, if_false, reduceCtorEq, O, eq_self, Nat.one_ne_zero, Nat.zero_ne_one, kV, jJ, jt, Fit, and_true, implies_true, true_and] at hf0
 refine ad fun _ k1 => ?_
 refine ag hP hN rfl ?_
 (refine ab rfl fun _ k0 => ?_; simp only [zO, zT, acs, reduceCtorEq, O, M, V, aa, Z, Y]; (repeat refine an ?_); (try refine .inl ?_); apply k0; clear k0; simp only [zP, M])
 refine af ?_
 apply k1; clear k1; refine kp [0, 1, 4] ?_
 refine ad fun _ k2 => ?_
 refine ad fun _ k3 => ?_
 refine ag hP hN rfl ?_
 iterate 3 (refine ab rfl fun _ k0 => ?_; simp only [zO, zT, acs, reduceCtorEq, O, M, V, aa, Z, Y]; (repeat refine an ?_); (try refine .inl ?_); apply k0; clear k0; simp only [zP, M])
 refine af ?_
 apply k3; clear k3; refine kp [0, 1, 4, 7, 8] ?_
 refine aG ?_
 refine bD (fun n4 s4 => ∃ (k : Nat), (k ≤ xs.length) ∧ (∀ q, q < k → xs.getD q [] ≠ x) ∧ n4 = xs.length - k ∧ s4 = { env := [(0, .one (.list .str xs)), (1, .one (.str x)), (4, .one (.int .i64 0)), (7, .one (.int .i64 (xs.length : Int))), (8, .one (.int .i64 (k : Int)))], L := [] }) ?_ ?_
 ·exact ⟨_, _, aL [0, 1, 4, 7, 8], 0, Nat.zero_le _, fun q hq => by omega, rfl, rfl⟩
 rintro n4 s4 ⟨k, hk, hq, rfl, rfl⟩
 refine ad fun _ k5 => ?_
 refine ag hP hN rfl ?_
 (refine ab rfl fun _ k0 => ?_; simp only [zO, zT, acs, reduceCtorEq, O, M, V, aa, Z, Y]; (repeat refine an ?_); (try refine .inl ?_); apply k0; clear k0; simp only [zP, M])
 refine af ?_
 apply k5; clear k5; refine kp [0, 1, 4, 7, 8, 9] ?_
 refine ad fun _ k6 => ?_
 refine cd (fun hc7 => ?_) (fun hc7 => ?_)
 ·(try simp only [zB, reduceCtorEq] at hc7)
  refine ax ?_
  apply k6; clear k6; refine kp [0, 1, 4, 7, 8, 9] ?_
  refine ad fun _ k8 => ?_
  refine aG ?_
  refine ad fun _ k9 => ?_
  refine ag hP hN rfl ?_
  iterate 2 (refine ab rfl fun _ k0 => ?_; simp only [zO, zT, acs, reduceCtorEq, O, M, V, aa, Z, Y]; (repeat refine an ?_); (try refine .inl ?_); apply k0; clear k0; simp only [zP, M])
  refine af ?_
  apply k9; clear k9; refine kp [0, 1, 4, 5, 7, 8, 9] ?_
  refine ad fun _ k10 => ?_
  refine ag hP hN rfl ?_
  iterate 6 (refine ab rfl fun _ k0 => ?_; simp only [zO, zT, acs, reduceCtorEq, O, M, V, aa, Z, Y]; (repeat refine an ?_); (try refine .inl ?_); apply k0; clear k0; simp only [zP, M])
  refine af ?_
  apply k10; clear k10; refine kp [0, 1, 4, 5, 7, 8, 9, 16] ?_
  refine cd (fun hc11 => ?_) (fun hc11 => ?_)
  ·(try simp only [zB, reduceCtorEq] at hc11)
   have hme : xs.getD k [] = x := by first | exact hc11 | exact (hc11).symm
   refine ad fun _ k12 => ?_
   refine ag hP hN rfl ?_
   iterate 2 (refine ab rfl fun _ k0 => ?_; simp only [zO, zT, acs, reduceCtorEq, O, M, V, aa, Z, Y]; (repeat refine an ?_); (try refine .inl ?_); apply k0; clear k0; simp only [zP, M])
   refine af ?_
   apply k12; clear k12; refine kp [0, 1, 4, 5, 7, 8, 9, 16] ?_
   refine au ?_
   refine ⟨nr, _, rfl, ?_⟩; simp only [zF, zP, O, M]
   refine VLE.of_eq ?_
   refine congrArg (fun n => AV.one (AC.int IntKind.i64 n)) ?_
   symm
   first
   | (have g9 := qp (fun q hq2 => hq q hq2) (by omega) hme; obtain ⟨g1, g2⟩ := g9; rw [if_pos g2, g1]; done)
   | (rw [if_neg (ua fun q hq2 => hq q (by omega))]; done)
  (try simp only [zB, reduceCtorEq] at hc11)
  have hne : xs.getD k [] ≠ x := by first | exact hc11 | exact Ne.symm hc11
  refine ax ?_
  apply k8; clear k8; refine kp [0, 1, 4, 5, 7, 8, 9, 16] ?_
  refine ag hP hN rfl ?_
  iterate 2 (refine ab rfl fun _ k0 => ?_; simp only [zO, zT, acs, reduceCtorEq, O, M, V, aa, Z, Y]; (repeat refine an ?_); (try refine .inl ?_); apply k0; clear k0; simp only [zP, M])
  refine af ?_
  refine ⟨_, _, ?_, aL [0, 1, 4, 7, 8], k + 1, by omega, fun q hq2 => ?_, rfl, rfl⟩
  · omega
  · by_cases e : q = k
    · rw [e]; exact hne
    · exact hq q (by omega)
 (try simp only [zB, reduceCtorEq] at hc7)
 refine bC ?_
 apply k2; clear k2; refine kp [0, 1, 4, 7, 8, 9] ?_
 refine ad fun _ k13 => ?_
 refine ag hP hN rfl ?_
 (refine ab rfl fun _ k0 => ?_; simp only [zO, zT, acs, reduceCtorEq, O, M, V, aa, Z, Y]; (repeat refine an ?_); (try refine .inl ?_); apply k0; clear k0; simp only [zP, M])
 refine af ?_
 apply k13; clear k13; refine kp [0, 1, 4, 7, 8, 9] ?_
 refine au ?_
 refine ⟨nr, _, rfl, ?_⟩; simp only [zF, zP, O, M]
 refine VLE.of_eq ?_
 refine congrArg (fun n => AV.one (AC.int IntKind.i64 n)) ?_
 symm
 first
 | (have g9 := qp (fun q hq2 => hq q hq2) (by omega) hme; obtain ⟨g1, g2⟩ := g9; rw [if_pos g2, g1]; done)
 | (rw [if_neg (ua fun q hq2 => hq q (by omega))]; done)
theorem fA (xs : List Bs) (x : Bs) : bP Tryd.prog 31 [.one (.list .str xs), .one (.str x)] (.one (.bool (decide (x ∈ xs)))) := by
 refine aT Tryd.func31 rfl (by kernel_rfl) (Nat.le_of_ble_eq_true rfl) rfl fun C hP hN hB => ?_
 replace hN : C.N = 9 := hN
 simp only [aV, M]
 refine ad fun _ k1 => ?_
 refine ag hP hN rfl ?_
 (refine ab rfl fun _ k0 => ?_; simp only [zO, zT, acs, reduceCtorEq, O, M, V, aa, Z, Y]; (repeat refine an ?_); (try refine .inl ?_); apply k0; clear k0; simp only [zP, M])
 refine af ?_
 apply k1; clear k1; refine kp [0, 1, 4] ?_
 refine ad fun _ k2 => ?_
 refine ag hP hN rfl ?_
 iterate 2 (refine ab rfl fun _ k0 => ?_; simp only [zO, zT, acs, reduceCtorEq, O, M, V, aa, Z, Y]; (repeat refine an ?_); (try refine .inl ?_); apply k0; clear k0; simp only [zP, M])
 refine ab rfl fun _ k0 => ?_
 refine aw (h := am (fg xs x)) rfl rfl (by first | exact rfl | (simp only [ev, zP, O, M]; exact rfl)) (by simp only [zV, acs, reduceCtorEq, O, M, V, aa, Z, Y]) ?_
 apply k0; clear k0; simp only [zP, M]
 iterate 2 (refine ab rfl fun _ k0 => ?_; simp only [zO, zT, acs, reduceCtorEq, O, M, V, aa, Z, Y]; (repeat refine an ?_); (try refine .inl ?_); apply k0; clear k0; simp only [zP, M])
 refine af ?_
 apply k2; clear k2; refine kp [0, 1, 4] ?_
 refine au ?_
 refine ⟨nr, _, rfl, ?_⟩; simp only [zF, zP, O, M]
 refine VLE.of_eq ?_
 refine congrArg (fun b => AV.one (AC.bool b)) ?_
 by_cases h : x ∈ xs
 · rw [if_pos h]; simp [h]
 · rw [if_neg h]; simp [h]
theorem i6 (xs : List Bs) : bP Tryd.prog 19 [.agg [.list .str xs]] (.one (.int .i64 (alE xs))) := by
 refine aT Tryd.func19 rfl (by kernel_rfl) (Nat.le_of_ble_eq_true rfl) rfl fun C hP hN hB => ?_
 replace hN : C.N = 33 := hN
 simp only [aV, M]
 refine ad fun _ k1 => ?_
 refine ag hP hN rfl ?_
 iterate 2 (refine ab rfl fun _ k0 => ?_; simp only [zO, zT, acs, reduceCtorEq, O, M, V, aa, Z, Y]; (repeat refine an ?_); (try refine .inl ?_); apply k0; clear k0; simp only [zP, M])
 refine af ?_
 apply k1; clear k1; refine kp [0, 1, 2] ?_
 refine ad fun _ k2 => ?_
 refine aG ?_
 refine ad fun _ k3 => ?_
 refine ag hP hN rfl ?_
 iterate 5 (refine ab rfl fun _ k0 => ?_; simp only [zO, zT, acs, reduceCtorEq, O, M, V, aa, Z, Y]; (repeat refine an ?_); (try refine .inl ?_); apply k0; clear k0; simp only [zP, M])
 refine af ?_
 apply k3; clear k3; refine kp [0, 1, 2, 5] ?_
 refine cd (fun hc4 => ?_) (fun hc4 => ?_)
 ·(try simp only [zB, reduceCtorEq] at hc4)
  refine ad fun _ k5 => ?_
  refine ag hP hN rfl ?_
  (refine ab rfl fun _ k0 => ?_; simp only [zO, zT, acs, reduceCtorEq, O, M, V, aa, Z, Y]; (repeat refine an ?_); (try refine .inl ?_); apply k0; clear k0; simp only [zP, M])
  refine af ?_
  apply k5; clear k5; refine kp [0, 1, 2, 5] ?_
  refine au ?_
  refine ⟨nr, _, rfl, ?_⟩; simp only [zF, zP, O, M]
  refine VLE.of_eq ?_
  refine congrArg (fun n => AV.one (AC.int IntKind.i64 n)) ?_
  symm
  first
  | exact lJ (by omega)
  | exact ia (by omega) (by omega)
  | exact kP (by omega) (by omega) (k := k) (by omega) hq hbad
  | exact lv (by omega) (by omega) (k := k) (by omega) hq hgood hin
  | exact fH (by omega) (by omega) fun q hq2 => hq q (by omega)
 (try simp only [zB, reduceCtorEq] at hc4)
 refine ad fun _ k6 => ?_
 refine ag hP hN rfl ?_
 iterate 5 (refine ab rfl fun _ k0 => ?_; simp only [zO, zT, acs, reduceCtorEq, O, M, V, aa, Z, Y]; (repeat refine an ?_); (try refine .inl ?_); apply k0; clear k0; simp only [zP, M])
 refine af ?_
 apply k6; clear k6; refine kp [0, 1, 2, 5, 10] ?_
 refine cd (fun hc7 => ?_) (fun hc7 => ?_)
 ·(try simp only [zB, reduceCtorEq] at hc7)
  refine ad fun _ k8 => ?_
  refine ag hP hN rfl ?_
  (refine ab rfl fun _ k0 => ?_; simp only [zO, zT, acs, reduceCtorEq, O, M, V, aa, Z, Y]; (repeat refine an ?_); (try refine .inl ?_); apply k0; clear k0; simp only [zP, M])
  refine af ?_
  apply k8; clear k8; refine kp [0, 1, 2, 5, 10] ?_
  refine au ?_
  refine ⟨nr, _, rfl, ?_⟩; simp only [zF, zP, O, M]
  refine VLE.of_eq ?_
  refine congrArg (fun n => AV.one (AC.int IntKind.i64 n)) ?_
  symm
  first
  | exact lJ (by omega)
  | exact ia (by omega) (by omega)
  | exact kP (by omega) (by omega) (k := k) (by omega) hq hbad
  | exact lv (by omega) (by omega) (k := k) (by omega) hq hgood hin
  | exact fH (by omega) (by omega) fun q hq2 => hq q (by omega)
 (try simp only [zB, reduceCtorEq] at hc7)
 refine ax ?_
 apply k2; clear k2; refine kp [0, 1, 2, 5, 10] ?_
 refine ad fun _ k9 => ?_
 refine ad fun _ k10 => ?_
 refine ag hP hN rfl ?_
 iterate 4 (refine ab rfl fun _ k0 => ?_; simp only [zO, zT, acs, reduceCtorEq, O, M, V, aa, Z, Y]; (repeat refine an ?_); (try refine .inl ?_); apply k0; clear k0; simp only [zP, M])
 refine af ?_
 apply k10; clear k10; refine kp [0, 1, 2, 5, 10, 16, 17, 18] ?_
 refine aG ?_
 refine bD (fun n11 s11 => ∃ (k : Nat), (k ≤ xs.length) ∧ (∀ q, q < k → nmE xs q = 0) ∧ n11 = xs.length - k ∧ s11 = { env := [(1, .one (.ptr 0 0 0 0)), (2, .one (.int .i64 0)), (16, .one (.list .str xs)), (17, .one (.int .i64 (xs.length : Int))), (18, .one (.int .i64 (k : Int)))], L := [.vars 24 [.list .str xs]] }) ?_ ?_
 ·exact ⟨_, _, aL [1, 2, 16, 17, 18], 0, Nat.zero_le _, fun q hq => by omega, rfl, rfl⟩
 rintro n11 s11 ⟨k, hk, hq, rfl, rfl⟩
 refine ad fun _ k12 => ?_
 refine ag hP hN rfl ?_
 (refine ab rfl fun _ k0 => ?_; simp only [zO, zT, acs, reduceCtorEq, O, M, V, aa, Z, Y]; (repeat refine an ?_); (try refine .inl ?_); apply k0; clear k0; simp only [zP, M])
 refine af ?_
 apply k12; clear k12; refine kp [1, 2, 16, 17, 18, 19] ?_
 refine ad fun _ k13 => ?_
 refine cd (fun hc14 => ?_) (fun hc14 => ?_)
 ·(try simp only [zB, reduceCtorEq] at hc14)
  refine ax ?_
  apply k13; clear k13; refine kp [1, 2, 16, 17, 18, 19] ?_
  refine ad fun _ k15 => ?_
  refine aG ?_
  refine ad fun _ k16 => ?_
  refine ag hP hN rfl ?_
  iterate 5 (refine ab rfl fun _ k0 => ?_; simp only [zO, zT, acs, reduceCtorEq, O, M, V, aa, Z, Y]; (repeat refine an ?_); (try refine .inl ?_); apply k0; clear k0; simp only [zP, M])
  refine af ?_
  apply k16; clear k16; refine kp [1, 2, 3, 4, 16, 17, 18, 19] ?_
  refine ad fun _ k17 => ?_
  refine ad fun _ k18 => ?_
  refine ag hP hN rfl ?_
  (refine ab rfl fun _ k0 => ?_; simp only [zO, zT, acs, reduceCtorEq, O, M, V, aa, Z, Y]; (repeat refine an ?_); (try refine .inl ?_); apply k0; clear k0; simp only [zP, M])
  refine ab rfl fun _ k0 => ?_
  refine aw (h := am (kh (xs.getD k []))) rfl rfl (by first | exact rfl | (simp only [ev, zP, O, M]; exact rfl)) (by simp only [zV, acs, reduceCtorEq, O, M, V, aa, Z, Y]) ?_
  apply k0; clear k0; simp only [zP, M]
  (refine ab rfl fun _ k0 => ?_; simp only [zO, zT, acs, reduceCtorEq, O, M, V, aa, Z, Y]; (repeat refine an ?_); (try refine .inl ?_); apply k0; clear k0; simp only [zP, M])
  refine af ?_
  apply k18; clear k18; refine kp [1, 2, 3, 4, 16, 17, 18, 19, 25] ?_
  refine cd (fun hc19 => ?_) (fun hc19 => ?_)
  ·(try simp only [zB, reduceCtorEq] at hc19)
   have hbad : aY (xs.getD k []) = false := by simpa using hc19
   refine ad fun _ k20 => ?_
   refine ag hP hN rfl ?_
   (refine ab rfl fun _ k0 => ?_; simp only [zO, zT, acs, reduceCtorEq, O, M, V, aa, Z, Y]; (repeat refine an ?_); (try refine .inl ?_); apply k0; clear k0; simp only [zP, M])
   refine af ?_
   apply k20; clear k20; refine kp [1, 2, 3, 4, 16, 17, 18, 19, 25] ?_
   refine au ?_
   refine ⟨nr, _, rfl, ?_⟩; simp only [zF, zP, O, M]
   refine VLE.of_eq ?_
   refine congrArg (fun n => AV.one (AC.int IntKind.i64 n)) ?_
   symm
   first
   | exact lJ (by omega)
   | exact ia (by omega) (by omega)
   | exact kP (by omega) (by omega) (k := k) (by omega) hq hbad
   | exact lv (by omega) (by omega) (k := k) (by omega) hq hgood hin
   | exact fH (by omega) (by omega) fun q hq2 => hq q (by omega)
  (try simp only [zB, reduceCtorEq] at hc19)
  have hgood : aY (xs.getD k []) = true := by simpa using hc19
  refine ax ?_
  apply k17; clear k17; refine kp [1, 2, 3, 4, 16, 17, 18, 19, 25] ?_
  refine ad fun _ k21 => ?_
  refine ag hP hN rfl ?_
  iterate 3 (refine ab rfl fun _ k0 => ?_; simp only [zO, zT, acs, reduceCtorEq, O, M, V, aa, Z, Y, List.drop_zero, aE, Int.toNat_zero]; (repeat refine an ?_); (try refine .inl ?_); apply k0; clear k0; simp only [zP, M])
  (refine ab rfl fun _ k0 => ?_; simp only [zE, op1, ev, lkp, di, bz, cu, gH, Nat.mul_one, bZ, dj, acs, Ty.dflt, zG, cA, cz, bnd, Ty.size, reduceCtorEq, O, M, V, aa, Z, Y, Tryd.el22, Tryd.st24, Tryd.td22, Tryd.td24, Tryd.td3, Tryd.td9, List.drop_zero, aE, Int.toNat_zero]; (repeat refine an ?_); (try refine .inl ?_); apply k0; clear k0; simp only [zP, M])
  (refine ab rfl fun _ k0 => ?_; simp only [zO, zT, acs, reduceCtorEq, O, M, V, aa, Z, Y, List.drop_zero, aE, Int.toNat_zero]; (repeat refine an ?_); (try refine .inl ?_); apply k0; clear k0; simp only [zP, M])
  refine ab rfl fun _ k0 => ?_
  refine aw (h := am (fA (xs.take k) (xs.getD k []))) rfl rfl (by first | exact rfl | (simp only [ev, zP, O, M]; exact rfl)) (by simp only [zV, acs, reduceCtorEq, O, M, V, aa, Z, Y, List.drop_zero, aE, Int.toNat_zero]) ?_
  apply k0; clear k0; simp only [zP, M]
  refine af ?_
  apply k21; clear k21; refine kp [1, 2, 3, 4, 16, 17, 18, 19, 25, 31] ?_
  refine cd (fun hc22 => ?_) (fun hc22 => ?_)
  ·(try simp only [zB, reduceCtorEq] at hc22)
   have hin : xs.getD k [] ∈ xs.take k := by simpa using hc22
   refine ad fun _ k23 => ?_
   refine ag hP hN rfl ?_
   (refine ab rfl fun _ k0 => ?_; simp only [zO, zT, acs, reduceCtorEq, O, M, V, aa, Z, Y]; (repeat refine an ?_); (try refine .inl ?_); apply k0; clear k0; simp only [zP, M])
   refine af ?_
   apply k23; clear k23; refine kp [1, 2, 3, 4, 16, 17, 18, 19, 25, 31] ?_
   refine au ?_
   refine ⟨nr, _, rfl, ?_⟩; simp only [zF, zP, O, M]
   refine VLE.of_eq ?_
   refine congrArg (fun n => AV.one (AC.int IntKind.i64 n)) ?_
   symm
   first
   | exact lJ (by omega)
   | exact ia (by omega) (by omega)
   | exact kP (by omega) (by omega) (k := k) (by omega) hq hbad
   | exact lv (by omega) (by omega) (k := k) (by omega) hq hgood hin
   | exact fH (by omega) (by omega) fun q hq2 => hq q (by omega)
  (try simp only [zB, reduceCtorEq] at hc22)
  have hnin : xs.getD k [] ∉ xs.take k := by simpa using hc22
  refine ax ?_
  apply k15; clear k15; refine kp [1, 2, 3, 4, 16, 17, 18, 19, 25, 31] ?_
  refine ag hP hN rfl ?_
  iterate 2 (refine ab rfl fun _ k0 => ?_; simp only [zO, zT, acs, reduceCtorEq, O, M, V, aa, Z, Y]; (repeat refine an ?_); (try refine .inl ?_); apply k0; clear k0; simp only [zP, M])
  refine af ?_
  refine ⟨_, _, ?_, aL [1, 2, 16, 17, 18], k + 1, by omega, fun q hq2 => ?_, rfl, rfl⟩
  · omega
  · by_cases e : q = k
    · rw [e]; exact kG hgood hnin
    · exact hq q (by omega)
 (try simp only [zB, reduceCtorEq] at hc14)
 refine bC ?_
 apply k9; clear k9; refine kp [1, 2, 16, 17, 18, 19] ?_
 refine ad fun _ k24 => ?_
 refine ag hP hN rfl ?_
 (refine ab rfl fun _ k0 => ?_; simp only [zO, zT, acs, reduceCtorEq, O, M, V, aa, Z, Y]; (repeat refine an ?_); (try refine .inl ?_); apply k0; clear k0; simp only [zP, M])
 refine af ?_
 apply k24; clear k24; refine kp [1, 2, 16, 17, 18, 19] ?_
 refine au ?_
 refine ⟨nr, _, rfl, ?_⟩; simp only [zF, zP, O, M]
 refine VLE.of_eq ?_
 refine congrArg (fun n => AV.one (AC.int IntKind.i64 n)) ?_
 symm
 first
 | exact lJ (by omega)
 | exact ia (by omega) (by omega)
 | exact kP (by omega) (by omega) (k := k) (by omega) hq hbad
 | exact lv (by omega) (by omega) (k := k) (by omega) hq hgood hin
 | exact fH (by omega) (by omega) fun q hq2 => hq q (by omega)
section
open Go.RowKit
open Go.Shelf in
def Tryd.lays212_ren : Go.Shelf.Ren := ⟨fun | 212 => 98 | 263 => 102 | 264 => 103 | n => n, fun | 46 => 88 | 51 => 107 | 146 => 142 | 53 => 109 | 148 => 145 | n => n, fun | n => n⟩
theorem Tryd.lays212 : Go.Proofs.Lays.n212 Tryd.prog Tryd.lays212_ren := {
  mixed := by kernel_rfl,
  f212 := Tryd.func98.trans (congrArg some (by kernel_rfl)),
  f263 := Tryd.func102.trans (congrArg some (by kernel_rfl)),
  f264 := Tryd.func103.trans (congrArg some (by kernel_rfl)),
  t46 := Tryd.underlying88,
  a46 := Tryd.isAgg88,
  z46 := Tryd.sizeOf88,
  v46 := Tryd.zeroValue88,
  t51 := Tryd.underlying107,
  a51 := Tryd.isAgg107,
  z51 := Tryd.sizeOf107,
  v51 := Tryd.zeroValue107,
  t53 := Tryd.underlying109,
  a53 := Tryd.isAgg109,
  z53 := Tryd.sizeOf109,
  v53 := Tryd.zeroValue109,
  t146 := Tryd.underlying142,
  a146 := Tryd.isAgg142,
  z146 := Tryd.sizeOf142,
  v146 := Tryd.zeroValue142,
  t148 := Tryd.underlying145,
  a148 := Tryd.isAgg145,
  z148 := Tryd.sizeOf145,
  v148 := Tryd.zeroValue145 }
theorem pL {P : Program} {I S : TypeId} (hu : P.underlying S = some (.slice I)) (hs : (P.info? I).map (·.size) = some 1) (W : World) (g b o c n dc : Nat) (ty : TypeId) (h1 : 1 ≤ n) (cur : Array Value) (t : TypeId) (hg : W.heap[g]? = some (.cells cur t (0, 0))) (hz : cur.size = n) (v : Value) (hv : v.oneCell' = true) (hc : W.cell? ⟨b, o, none⟩ = some v) :
    (Builtin.copy_ #[S, S] ty #[.slice (some ⟨g, 0, none⟩) n dc, .slice (some ⟨b, o, none⟩) 1 c]).run P W = .ok (goInt 1) (W.setRow g (v :: cur.toList.drop 1).toArray) := by
  have := run_copy_row (P := P) W S S ty I g 0 n dc ⟨b, o, none⟩ 1 c cur t [v] hu hs hg (by simp [Nat.min_def]; omega) (fun j u hj => by
    cases j with
    | zero => simp at hj; subst hj; exact hc
    | succ j => simp at hj) (by simp; omega) (by simpa using hv)
  simpa using this
def cR (n k : Nat) : Array Value := (List.replicate k (Value.int .i64 (-1)) ++ List.replicate (n - k) (Value.int .i64 0)).toArray
def qu (n k : Nat) (W0 W : World) : Prop := Below W0.heap.size W0 W ∧ W.heap[W0.heap.size]? = some (.cells (cR n k) 3 (0, 0))
theorem jo {n k : Nat} (h : k ≤ n) : (cR n k).toList.length = n := by unfold cR; simp; omega
theorem tk (n : Nat) : madeCells #[Value.int IntKind.i64 0] n = cR n 0 := by
  unfold madeCells cR
  simp only [List.replicate_zero, ar, Nat.sub_zero, List.size_toArray, aj, aq, Nat.zero_add, Nat.mod_one]
  apply Array.ext
  · simp
  · intro i h1 h2
    simp
theorem tV {n : Nat} (h : 1 ≤ n) : (Value.int IntKind.i64 (-1) :: (cR n 0).toList.drop 1).toArray = cR n 1 := by
  obtain ⟨m, rfl⟩ : ∃ m, n = m + 1 := ⟨n - 1, by omega⟩
  unfold cR
  simp [List.replicate_succ]
theorem pv {P : Program} {I S : TypeId} (hu : P.underlying S = some (.slice I)) (hs : (P.info? I).map (·.size) = some 1) (W : World) (g n k dc sc : Nat) (ty : TypeId) (h1 : 1 ≤ k) (h2 : k < n) (t : TypeId) (hg : W.heap[g]? = some (.cells (cR n k) t (0, 0))) :
    (Builtin.copy_ #[S, S] ty #[.slice (some ⟨g, k, none⟩) (n - k) dc, .slice (some ⟨g, 0, none⟩) k sc]).run P W = .ok (goInt (Nat.min k (n - k))) (W.setRow g (cR n (k + Nat.min k (n - k)))) := by
  have hm : Nat.min k (n - k) ≤ k ∧ Nat.min k (n - k) ≤ n - k := ⟨Nat.min_le_left _ _, Nat.min_le_right _ _⟩
  have := run_copy_row (P := P) W S S ty I g k (n - k) dc ⟨g, 0, none⟩ k sc (cR n k) t (List.replicate (Nat.min k (n - k)) (Value.int .i64 (-1))) hu hs hg (by simp) (fun j u hj => by
    have hj2 : j < Nat.min k (n - k) ∧ u = Value.int .i64 (-1) := by
      rw [List.getElem?_replicate] at hj
      split at hj
      · exact ⟨by assumption, by cases hj; rfl⟩
      · cases hj
    obtain ⟨hj2, rfl⟩ := hj2
    have hjk : j < k := by omega
    rw [Addr.add_lit, Nat.zero_add]
    simp [World.cell?, hg, cR, List.getElem?_append, hjk]) (by have := jo (n := n) (k := k) (by omega); simp at this ⊢; omega) (by intro v hv; rw [(List.mem_replicate.1 hv).2]; rfl)
  rw [this]
  congr 2
  · simp
  · unfold cR
    simp only [aI, List.toList_toArray]
    have e1 : List.take k (List.replicate k (Value.int .i64 (-1)) ++ List.replicate (n - k) (Value.int .i64 0)) = List.replicate k (Value.int .i64 (-1)) := by
      rw [List.take_append_of_le_length (by simp)]; simp
    have e2 : List.drop (k + Nat.min k (n - k)) (List.replicate k (Value.int .i64 (-1)) ++ List.replicate (n - k) (Value.int .i64 0)) = List.replicate (n - (k + Nat.min k (n - k))) (Value.int .i64 0) := by
      rw [List.drop_append, List.drop_of_length_le (by simp), ar, List.drop_replicate]; congr 1; simp; omega
    rw [e1, e2, List.replicate_append_replicate]

theorem oy (w : World) (o : Obj) : (w.alloc o).heap[w.heap.size]? = some o := Array.getElem?_push_size
set_option maxHeartbeats 1000000 in
theorem tH (b o c n : Nat) (w : World) (h1 : 1 ≤ n) (hn : n ≤ 1000) (hc : w.cell? ⟨b, o, none⟩ = some (.int .i64 (-1))) :
    Calls Tryd.prog 88 #[.slice (some ⟨b, o, none⟩) 1 c, .int .i64 n] w fun e w' => e = .returned (.slice (some ⟨w.heap.size, 0, none⟩) n n) ∧ qu n n w w' := by
  have hm := fun W => Any.bits_Mul Tryd.lays212 1 n (by omega) (by omega) W
  have e1 : 1 * n / 18446744073709551616 = 0 := by omega
  have e2 : 1 * n % 18446744073709551616 = n := by omega
  simp only [e1, e2] at hm
  clear e1 e2
  have hmk := run_make_row' (P := Tryd.prog) 44 3 (.int .i64 0) 8 Tryd.underlying44 (by kernel_rfl) rfl .i64 .i64 n (by omega) (by omega)
  have hb : b < w.heap.size := World.block_lt_of_cell? _ _ hc
  have hsz : (Tryd.prog.info? 3).map (·.size) = some 1 := by kernel_rfl
  obtain ⟨w1, hw1⟩ : ∃ w1, w.alloc (.cells (madeCells #[Value.int .i64 0] n) 3) = w1 := ⟨_, rfl⟩
  obtain ⟨w2, hw2⟩ : ∃ w2, w1.setRow w.heap.size (cR n 1) = w2 := ⟨_, rfl⟩
  have hg1 : w1.heap[w.heap.size]? = some (.cells (cR n 0) 3 (0, 0)) := by rw [← hw1, ← tk]; exact oy w _
  have hb1 : Below w.heap.size w w1 := by rw [← hw1]; exact (Below.refl _ w).alloc (Nat.le_refl _) _
  have hO : qu n 1 w w2 := by
    rw [← hw2]
    exact ⟨below_setRow hb1 (Nat.le_refl _) _, setRow_heap w1 _ _ _ 3 _ hg1⟩
  have hcp : (Builtin.copy_ #[44, 44] 3 #[.slice (some ⟨w.heap.size, 0, none⟩) n n, .slice (some ⟨b, o, none⟩) 1 c]).run Tryd.prog w1 = .ok (goInt 1) w2 := by
    rw [← hw2, ← tV h1]
    exact pL Tryd.underlying44 hsz w1 w.heap.size b o c n n 3 h1 (cR n 0) 3 hg1 (by have := jo (n := n) (k := 0) (by omega); simpa using this) _ rfl ((hb1.cell (p := ⟨b, o, none⟩) hb).trans hc)
  have mixed := Tryd.mixed
  go_enter Tryd.func88, Tryd.ntmps88
  go_wp2_with (go_at_call 98; refine (hm _).mono ?_; rintro e w' ⟨rfl, hw⟩; rw [hw])
  clear hmk hm hcp hw1 hw2 hg1
  have HO := Lib.hid hO
  clear hO
  go_loopw [8] (fun i wr => ∃ k : Nat, 1 ≤ k ∧ k ≤ n ∧ i = .int .i64 k ∧ qu n k w wr) (fun i _ => n - (intOf i).toNat)
  case atStart => exact ⟨1, Nat.le_refl _, h1, rfl, HO.out⟩
  case round =>
    obtain ⟨k, hk1, hkn, rfl, hrel⟩ := hrel
    by_cases hlt : k < n
    · have hg := hrel.2
      have hm : Nat.min k (n - k) ≤ k ∧ Nat.min k (n - k) ≤ n - k ∧ 1 ≤ Nat.min k (n - k) := ⟨Nat.min_le_left _ _, Nat.min_le_right _ _, Nat.le_min.2 ⟨hk1, by omega⟩⟩
      have hcp1 : ∀ ty dc sc, (Builtin.copy_ #[44, 44] ty #[.slice (some ⟨w.heap.size, k, none⟩) (n - k) dc, .slice (some ⟨w.heap.size, 0, none⟩) k sc]).run Tryd.prog wr.drew = .ok (goInt (Nat.min k (n - k))) (wr.drew.setRow w.heap.size (cR n (k + Nat.min k (n - k)))) :=
        fun ty dc sc => pv Tryd.underlying44 hsz wr.drew w.heap.size n k dc sc ty hk1 hlt 3 hg
      have hO2 : qu n (k + Nat.min k (n - k)) w (wr.drew.setRow w.heap.size (cR n (k + Nat.min k (n - k)))) :=
        ⟨below_setRow (hrel.1.drew) (Nat.le_refl _) _, setRow_heap wr.drew _ _ _ 3 _ hg⟩
      clear hrel hg
      generalize Nat.min k (n - k) = d at *
      obtain ⟨W, hW⟩ : ∃ W, W = wr.drew.setRow w.heap.size (cR n (k + d)) := ⟨_, rfl⟩
      rw [← hW] at hO2 hcp1
      clear hW
      have hb4 : ¬ (n = k) := by omega
      go_wp2
      go_region_law_o (refine step_copy_runI rfl _ _ 44 44 rfl _ _ (by simp [Act.eval, Act.put]) (by simp [Act.eval, Act.put]) (hcp1 _ _ _) ?_)
      have hwr : IntKind.i64.wrap ((k : Int) + (d : Int)) = ((k + d : Nat) : Int) := by rw [IntKind.wrap_i64]; omega
      simp only [hwr, Act.put, List.setIfInBounds_toArray, aX, bu]
      clear hwr
      go_roundw
      case rel => exact ⟨_, _, _, _, _, _, _, _, _, _, _, _, _, _, ⟨k + d, by omega, by omega, rfl, hO2⟩, rfl⟩
      case measure => show n - (((k + d : Nat) : Int)).toNat < n - ((k : Int)).toNat; omega
    · obtain rfl : k = n := by omega
      go_wp2
      go_ret
      exact ⟨rfl, hrel⟩

theorem tC (n : Nat) (h1 : 1 ≤ n) (hn : n ≤ 1000) : uc Tryd.prog 88 [.one (.list (.int .i64) [-1]), .one (.int .i64 (n : Int))] (.int .i64) 3 (List.replicate n (-1)) := by
  refine ⟨⟨Tryd.f88, Tryd.func88, by kernel_rfl, by kernel_rfl⟩, fun C L σ w vs hP hi ha => ?_⟩
  match vs, ha with
  | [v1, v2], ⟨h2, h3, _⟩ =>
  have e2 : v2 = .int .i64 n := h3.2
  subst e2
  have hd : Dat (avd C L σ) w (.list (.int .i64)) [-1] [v1] := h2.2
  simp only [Dat] at hd
  obtain ⟨A, c, e1, _, _, hr⟩ := hd
  obtain ⟨b, o, rfl, _, _, hc⟩ := hr (by simp)
  obtain ⟨cs, l1, l2, l3⟩ := hc 0 (by simp)
  obtain rfl : v1 = .slice (some ⟨b, o, none⟩) 1 c := by simpa using e1
  have l4 := l2 0 (by decide)
  have l5 : cs = [.int .i64 (-1)] := l3
  rw [l5] at l4
  have l6 : w.cell? ⟨b, o, none⟩ = some (.int .i64 (-1)) := by simpa [Ty.size] using l4
  refine (tH b o c n w h1 hn l6).mono fun e w' hh => ?_
  obtain ⟨rfl, hb, hg⟩ := hh
  refine ⟨_, (cR n n).toList, rfl, ⟨hb.size, hb.os, hb.tape, hb.output, hb.block⟩, ?_, by decide, fun i hi => ?_⟩
  · have hl := jo (Nat.le_refl n)
    refine ⟨by rw [hl]; simp [Ty.size], .inr ⟨w.heap.size, n, _, by simp, Nat.le_refl _, hg, by simp, by unfold maxLen; omega, ?_, ?_⟩⟩
    · simpa [Ty.size] using hl
    · simp only [aI, Ty.size, Nat.mul_one]; rw [List.take_of_length_le (by omega)]
  · have hi2 : i < n := by simpa using hi
    have e : ((cR n n).toList.drop (i * 1)).take 1 = [Value.int .i64 (-1)] := by
      have e2 : (cR n n).toList = List.replicate n (Value.int .i64 (-1)) := by unfold cR; simp
      rw [e2, Nat.mul_one, List.drop_replicate, show n - i = (n - i - 1) + 1 by omega, List.replicate_succ]; rfl
    show Dat _ _ (.int .i64) _ (((cR n n).toList.drop (i * 1)).take 1)
    rw [e]
    show [Value.int .i64 (-1)] = [Value.int .i64 ((List.replicate n (-1 : Int)).getD i 0)]
    simp [List.getD, hi2]
end
theorem pX (L0 : List AO) (st : Int) (inp : Nat) (hs1 : 0 ≤ st) (hs2 : st ≤ 1000) (hi1 : 1 ≤ inp) (hi2 : inp ≤ 1000) : cH Tryd.prog L0 73 [.one (.int .i64 st), .one (.int .i64 (inp : Int))] { av := .one (.rwc L0.length 0), new := cU 44 3 L0.length (List.replicate st.toNat (List.replicate inp (-1))), fp := List.range L0.length } := by
 refine dn _ _ Tryd.func73 rfl (by kernel_rfl) (Nat.le_of_ble_eq_true rfl) (by intro k hk; exact List.mem_range.2 hk) (fun C hP hN hB => ?_)
 replace hB : C.bL.length = L0.length := by rw [hB]; skip
 replace hN : C.N = 22 := hN
 simp only [aV, M]
 refine ad fun _ k1 => ?_
 refine ag hP hN rfl ?_
 (refine ab rfl fun _ k0 => ?_; simp only [zO, zT, acs, reduceCtorEq, O, M, V, aa, Z, Y]; (repeat refine an ?_); (try refine .inl ?_); apply k0; clear k0; simp only [zP, M])
 refine af ?_
 apply k1; clear k1; refine kp [0, 1, 4] ?_
 refine ad fun _ k2 => ?_
 refine ag hP hN rfl ?_
 (refine ab rfl fun _ k0 => ?_; simp only [zO, zT, acs, reduceCtorEq, O, M, V, aa, Z, Y, ah, aj, aq]; (repeat refine an ?_); (try refine .inl ?_); apply k0; clear k0; simp only [zP, M])
 (refine ab rfl fun _ k0 => ?_; simp only [zE, op1, ev, lkp, di, bz, eo, aZ, Ty.size, Ty.dflt, reduceCtorEq, O, M, V, aa, Z, Y, Tryd.el25, Tryd.td25, ah, aj, aq]; (repeat refine an ?_); refine Or.inr (Or.inl (k0 _ ?_)); clear k0; simp only [zP, M])
 (refine ab rfl fun _ k0 => ?_; simp only [zO, zT, acs, reduceCtorEq, O, M, V, aa, Z, Y, ah, aj, aq]; (repeat refine an ?_); (try refine .inl ?_); apply k0; clear k0; simp only [zP, M])
 refine af ?_
 apply k2; clear k2; refine kp [0, 1, 4, 5] ?_
 refine ad fun _ k3 => ?_
 refine ad fun _ k4 => ?_
 rw [oN, ← tP L0 44 3 st.toNat]
 have hlc := mN (b := L0.length + 1) (Nat.zero_le st.toNat)
 refine ag hP hN rfl ?_
 iterate 3 (refine ab rfl fun _ k0 => ?_; simp only [zO, zT, acs, reduceCtorEq, O, M, V, aa, Z, Y, io, hlc, Nat.div_one]; (repeat refine an ?_); (try refine .inl ?_); apply k0; clear k0; simp only [zP, M])
 refine af ?_
 apply k4; clear k4; refine kp [0, 1, 4, 5, 10, 11] ?_
 refine aG ?_
 refine bD (fun n5 s5 => ∃ (k : Nat), (k ≤ st.toNat) ∧ n5 = st.toNat - k ∧ s5 = { env := [(1, .one (.int .i64 (inp : Int))), (4, .one .nils), (5, .one (.rwc L0.length 0)), (10, .one (.int .i64 st)), (11, .one (.int .i64 (k : Int)))], L := eF L0 44 3 st.toNat k (List.replicate k (List.replicate inp (-1))) }) ?_ ?_
 ·exact ⟨_, _, aL [1, 4, 5, 10, 11], 0, Nat.zero_le _, rfl, by rw [show (st.toNat : Int) = st by omega]; rfl⟩
 rintro n5 s5 ⟨k, hk, rfl, rfl⟩
 refine ad fun _ k6 => ?_
 refine ag hP hN rfl ?_
 (refine ab rfl fun _ k0 => ?_; simp only [zO, zT, acs, reduceCtorEq, O, M, V, aa, Z, Y]; (repeat refine an ?_); (try refine .inl ?_); apply k0; clear k0; simp only [zP, M])
 refine af ?_
 apply k6; clear k6; refine kp [1, 4, 5, 10, 11, 12] ?_
 refine ad fun _ k7 => ?_
 refine cd (fun hc8 => ?_) (fun hc8 => ?_)
 ·(try simp only [zB, reduceCtorEq] at hc8)
  refine ax ?_
  apply k7; clear k7; refine kp [1, 4, 5, 10, 11, 12] ?_
  refine ad fun _ k9 => ?_
  refine aG ?_
  refine ad fun _ k10 => ?_
  refine ag hP hN rfl ?_
  iterate 2 (refine ab rfl fun _ k0 => ?_; simp only [zO, zT, acs, reduceCtorEq, O, M, V, aa, Z, Y]; (repeat refine an ?_); (try refine .inl ?_); apply k0; clear k0; simp only [zP, M])
  refine af ?_
  apply k10; clear k10; refine kp [1, 4, 5, 6, 10, 11, 12] ?_
  have hlc := mN (b := L0.length + 1) (show k ≤ st.toNat by omega)
  have hst := qI L0 44 3 (n := st.toNat) (k := k) (List.replicate (k + 1) (List.replicate inp (-1))) (by omega)
  have hrr : List.replicate k (List.replicate inp (-1 : Int)) ++ [List.replicate inp (-1)] = List.replicate (k + 1) (List.replicate inp (-1)) := by rw [show [List.replicate inp (-1 : Int)] = List.replicate 1 (List.replicate inp (-1)) from rfl, List.replicate_append_replicate]
  refine ag hP hN rfl ?_
  iterate 4 (refine ab rfl fun _ k0 => ?_; simp only [zO, zT, acs, reduceCtorEq, O, M, V, aa, Z, Y, io, j9, aI, hlc, aE, Nat.add_zero]; (repeat refine an ?_); (try refine .inl ?_); apply k0; clear k0; simp only [zP, M, iX, hrr, hst, aI])
  refine ab rfl fun _ k0 => ?_
  refine aw (h := pr (tC inp hi1 hi2)) rfl rfl (by first | exact rfl | (simp only [ev, zP, O, M]; exact rfl)) (by simp only [zV, acs, reduceCtorEq, O, M, V, aa, Z, Y, io, j9, aI, hlc, aE, Nat.add_zero]) ?_
  apply k0; clear k0; simp only [zP, M, iX, hrr, hst, aI]
  iterate 2 (refine ab rfl fun _ k0 => ?_; simp only [zO, zT, acs, reduceCtorEq, O, M, V, aa, Z, Y, io, j9, aI, hlc, aE, Nat.add_zero]; (repeat refine an ?_); (try refine .inl ?_); apply k0; clear k0; simp only [zP, M, iX, hrr, hst, aI])
  refine af ?_
  apply k9; clear k9; refine kp [1, 4, 5, 6, 10, 11, 12] ?_
  refine ag hP hN rfl ?_
  iterate 2 (refine ab rfl fun _ k0 => ?_; simp only [zO, zT, acs, reduceCtorEq, O, M, V, aa, Z, Y]; (repeat refine an ?_); (try refine .inl ?_); apply k0; clear k0; simp only [zP, M])
  refine af ?_
  refine ⟨_, _, ?_, aL [1, 4, 5, 10, 11], k + 1, by omega, rfl, by rw [← hst]; rfl⟩
  omega
 (try simp only [zB, reduceCtorEq] at hc8)
 refine bC ?_
 apply k3; clear k3; refine kp [1, 4, 5, 10, 11, 12] ?_
 refine ad fun _ k11 => ?_
 refine ag hP hN rfl ?_
 iterate 2 (refine ab rfl fun _ k0 => ?_; simp only [zO, zT, acs, reduceCtorEq, O, M, V, aa, Z, Y]; (repeat refine an ?_); (try refine .inl ?_); apply k0; clear k0; simp only [zP, M])
 refine af ?_
 apply k11; clear k11; refine kp [1, 4, 5, 10, 11, 12] ?_
 refine au ?_
 refine ⟨by first | exact .inl rfl | exact .inr rfl, _, rfl, ?_⟩; simp only [zP, O, M]
 obtain rfl : k = st.toNat := by omega
 rw [rK L0 _ _ _ _ (aI ..)]
 all_goals rfl
set_option maxHeartbeats 1000000 in
theorem sU (r : RS) (a b : AC) (U : List AO) (l : List Bs) (hl : l.length ≤ 1000000) (hi : 1 ≤ r.ins.length ∧ r.ins.length ≤ 64) : cH Tryd.prog (.vars 56 [.str r.nm, .list .str r.ins, .list .str r.outs, .int .i64 r.inp, .int .i64 r.st, a, b, .list .str r.sts, .int .i64 (r.rd : Int), .int .i64 r.lf] :: U) 51 [.one (.ptr 0 0 0 0), .one (.list .str l)] { av := .one (.int .i64 (dt l)), upd := fj (U.length + 1) (ib 56 44 3 r a b U l), new := (ib 56 44 3 r a b U l).drop (U.length + 1), fp := List.range (U.length + 1) } := by
 refine dn _ _ Tryd.func51 rfl (by kernel_rfl) (Nat.le_of_ble_eq_true rfl) (by intro k hk; exact List.mem_range.2 hk) (fun C hP hN hB => ?_)
 replace hB : C.bL.length = U.length + 1 := by rw [hB]; rfl
 replace hN : C.N = 64 := hN
 simp only [aV, M]
 refine ad fun _ k1 => ?_
 refine ag hP hN rfl ?_
 (refine ab rfl fun _ k0 => ?_; simp only [zO, zT, acs, reduceCtorEq, O, M, V, aa, Z, Y]; (repeat refine an ?_); (try refine .inl ?_); apply k0; clear k0; simp only [zP, M])
 refine af ?_
 apply k1; clear k1; refine kp [0, 1, 4] ?_
 refine ad fun _ k2 => ?_
 refine aG ?_
 refine ad fun _ k3 => ?_
 refine ag hP hN rfl ?_
 iterate 4 (refine ab rfl fun _ k0 => ?_; simp only [zO, zT, acs, reduceCtorEq, O, M, V, aa, Z, Y]; (repeat refine an ?_); (try refine .inl ?_); apply k0; clear k0; simp only [zP, M])
 refine af ?_
 apply k3; clear k3; refine kp [0, 1, 4, 8] ?_
 refine cd (fun hc4 => ?_) (fun hc4 => ?_)
 ·(try simp only [zB, reduceCtorEq] at hc4)
  refine ad fun _ k5 => ?_
  refine ag hP hN rfl ?_
  (refine ab rfl fun _ k0 => ?_; simp only [zO, zT, acs, reduceCtorEq, O, M, V, aa, Z, Y]; (repeat refine an ?_); (try refine .inl ?_); apply k0; clear k0; simp only [zP, M])
  refine af ?_
  apply k5; clear k5; refine kp [0, 1, 4, 8] ?_
  refine au ?_
  refine ⟨by first | exact .inl rfl | exact .inr rfl, _, rfl, ?_⟩; simp only [zP, O, M]
  have hU := aD (cg (R := 56) (S := 44) (I := 3) (r := r) (a := a) (b := b) (U := U) (l := l) (x := .vars 56 [.str r.nm, .list .str r.ins, .list .str r.outs, .int .i64 r.inp, .int .i64 r.st, a, b, .list .str r.sts, .int .i64 (r.rd : Int), .int .i64 r.lf]))
  simp only [aj] at hU
  rw [hU]
  first
  | (have hE := jn (l := l) (by omega)
     rw [bv hE (by decide), hE]; all_goals exact ⟨rfl, rfl⟩)
  | (have hE := gi (l := l) (by omega) (by omega)
     rw [bv hE (by decide), hE]; all_goals exact ⟨rfl, rfl⟩)
  | (have hE := kO (l := l) (by omega) (by omega) (k := k) (by omega) hq hbad
     rw [bv hE (by decide), hE]; all_goals exact ⟨rfl, rfl⟩)
  | (have hE := lL (l := l) (by omega) (by omega) (k := k) (by omega) hq hgood hin
     rw [bv hE (by decide), hE]; all_goals exact ⟨rfl, rfl⟩)
  | (have hE := gD (l := l) (by omega) (by omega) fun q hq2 => hq q (by omega)
     have e9 : (U ++ cU 44 3 (U.length + 1) (List.replicate l.length (List.replicate r.ins.length (-1)))).length + 1 = U.length + 2 + l.length := by rw [ah, ew, aI]; omega
     rw [e9, fa hE, hE]; all_goals exact ⟨rfl, rfl⟩)
 (try simp only [zB, reduceCtorEq] at hc4)
 refine ad fun _ k6 => ?_
 refine ag hP hN rfl ?_
 iterate 4 (refine ab rfl fun _ k0 => ?_; simp only [zO, zT, acs, reduceCtorEq, O, M, V, aa, Z, Y]; (repeat refine an ?_); (try refine .inl ?_); apply k0; clear k0; simp only [zP, M])
 refine af ?_
 apply k6; clear k6; refine kp [0, 1, 4, 8, 12] ?_
 refine cd (fun hc7 => ?_) (fun hc7 => ?_)
 ·(try simp only [zB, reduceCtorEq] at hc7)
  refine ad fun _ k8 => ?_
  refine ag hP hN rfl ?_
  (refine ab rfl fun _ k0 => ?_; simp only [zO, zT, acs, reduceCtorEq, O, M, V, aa, Z, Y]; (repeat refine an ?_); (try refine .inl ?_); apply k0; clear k0; simp only [zP, M])
  refine af ?_
  apply k8; clear k8; refine kp [0, 1, 4, 8, 12] ?_
  refine au ?_
  refine ⟨by first | exact .inl rfl | exact .inr rfl, _, rfl, ?_⟩; simp only [zP, O, M]
  have hU := aD (cg (R := 56) (S := 44) (I := 3) (r := r) (a := a) (b := b) (U := U) (l := l) (x := .vars 56 [.str r.nm, .list .str r.ins, .list .str r.outs, .int .i64 r.inp, .int .i64 r.st, a, b, .list .str r.sts, .int .i64 (r.rd : Int), .int .i64 r.lf]))
  simp only [aj] at hU
  rw [hU]
  first
  | (have hE := jn (l := l) (by omega)
     rw [bv hE (by decide), hE]; all_goals exact ⟨rfl, rfl⟩)
  | (have hE := gi (l := l) (by omega) (by omega)
     rw [bv hE (by decide), hE]; all_goals exact ⟨rfl, rfl⟩)
  | (have hE := kO (l := l) (by omega) (by omega) (k := k) (by omega) hq hbad
     rw [bv hE (by decide), hE]; all_goals exact ⟨rfl, rfl⟩)
  | (have hE := lL (l := l) (by omega) (by omega) (k := k) (by omega) hq hgood hin
     rw [bv hE (by decide), hE]; all_goals exact ⟨rfl, rfl⟩)
  | (have hE := gD (l := l) (by omega) (by omega) fun q hq2 => hq q (by omega)
     have e9 : (U ++ cU 44 3 (U.length + 1) (List.replicate l.length (List.replicate r.ins.length (-1)))).length + 1 = U.length + 2 + l.length := by rw [ah, ew, aI]; omega
     rw [e9, fa hE, hE]; all_goals exact ⟨rfl, rfl⟩)
 (try simp only [zB, reduceCtorEq] at hc7)
 refine ax ?_
 apply k2; clear k2; refine kp [0, 1, 4, 8, 12] ?_
 refine ad fun _ k9 => ?_
 refine ad fun _ k10 => ?_
 refine ag hP hN rfl ?_
 iterate 3 (refine ab rfl fun _ k0 => ?_; simp only [zO, zT, acs, reduceCtorEq, O, M, V, aa, Z, Y]; (repeat refine an ?_); (try refine .inl ?_); apply k0; clear k0; simp only [zP, M])
 refine af ?_
 apply k10; clear k10; refine kp [0, 1, 4, 8, 12, 16, 17, 18] ?_
 refine aG ?_
 refine bD (fun n11 s11 => ∃ (k : Nat), (k ≤ l.length) ∧ (∀ q, q < k → nmE l q = 0) ∧ n11 = l.length - k ∧ s11 = { env := [(0, .one (.ptr 0 0 0 0)), (1, .one (.list .str l)), (4, .one (.int .i64 0)), (16, .one (.list .str l)), (17, .one (.int .i64 (l.length : Int))), (18, .one (.int .i64 (k : Int)))], L := (.vars 56 [.str r.nm, .list .str r.ins, .list .str r.outs, .int .i64 r.inp, .int .i64 r.st, a, b, .list .str r.sts, .int .i64 (r.rd : Int), .int .i64 r.lf] :: U) }) ?_ ?_
 ·exact ⟨_, _, aL [0, 1, 4, 16, 17, 18], 0, Nat.zero_le _, fun q hq => by omega, rfl, rfl⟩
 rintro n11 s11 ⟨k, hk, hq, rfl, rfl⟩
 refine ad fun _ k12 => ?_
 refine ag hP hN rfl ?_
 (refine ab rfl fun _ k0 => ?_; simp only [zO, zT, acs, reduceCtorEq, O, M, V, aa, Z, Y]; (repeat refine an ?_); (try refine .inl ?_); apply k0; clear k0; simp only [zP, M])
 refine af ?_
 apply k12; clear k12; refine kp [0, 1, 4, 16, 17, 18, 19] ?_
 refine ad fun _ k13 => ?_
 refine cd (fun hc14 => ?_) (fun hc14 => ?_)
 ·(try simp only [zB, reduceCtorEq] at hc14)
  refine ax ?_
  apply k13; clear k13; refine kp [0, 1, 4, 16, 17, 18, 19] ?_
  refine ad fun _ k15 => ?_
  refine aG ?_
  refine ad fun _ k16 => ?_
  refine ag hP hN rfl ?_
  iterate 5 (refine ab rfl fun _ k0 => ?_; simp only [zO, zT, acs, reduceCtorEq, O, M, V, aa, Z, Y]; (repeat refine an ?_); (try refine .inl ?_); apply k0; clear k0; simp only [zP, M])
  refine af ?_
  apply k16; clear k16; refine kp [0, 1, 4, 5, 6, 16, 17, 18, 19] ?_
  refine ad fun _ k17 => ?_
  refine ad fun _ k18 => ?_
  refine ag hP hN rfl ?_
  (refine ab rfl fun _ k0 => ?_; simp only [zO, zT, acs, reduceCtorEq, O, M, V, aa, Z, Y]; (repeat refine an ?_); (try refine .inl ?_); apply k0; clear k0; simp only [zP, M])
  refine ab rfl fun _ k0 => ?_
  refine aw (h := am (kh (l.getD k []))) rfl rfl (by first | exact rfl | (simp only [ev, zP, O, M]; exact rfl)) (by simp only [zV, acs, reduceCtorEq, O, M, V, aa, Z, Y]) ?_
  apply k0; clear k0; simp only [zP, M]
  (refine ab rfl fun _ k0 => ?_; simp only [zO, zT, acs, reduceCtorEq, O, M, V, aa, Z, Y]; (repeat refine an ?_); (try refine .inl ?_); apply k0; clear k0; simp only [zP, M])
  refine af ?_
  apply k18; clear k18; refine kp [0, 1, 4, 5, 6, 16, 17, 18, 19, 25] ?_
  refine cd (fun hc19 => ?_) (fun hc19 => ?_)
  ·(try simp only [zB, reduceCtorEq] at hc19)
   have hbad : aY (l.getD k []) = false := by simpa using hc19
   refine ad fun _ k20 => ?_
   refine ag hP hN rfl ?_
   (refine ab rfl fun _ k0 => ?_; simp only [zO, zT, acs, reduceCtorEq, O, M, V, aa, Z, Y]; (repeat refine an ?_); (try refine .inl ?_); apply k0; clear k0; simp only [zP, M])
   refine af ?_
   apply k20; clear k20; refine kp [0, 1, 4, 5, 6, 16, 17, 18, 19, 25] ?_
   refine au ?_
   refine ⟨by first | exact .inl rfl | exact .inr rfl, _, rfl, ?_⟩; simp only [zP, O, M]
   have hU := aD (cg (R := 56) (S := 44) (I := 3) (r := r) (a := a) (b := b) (U := U) (l := l) (x := .vars 56 [.str r.nm, .list .str r.ins, .list .str r.outs, .int .i64 r.inp, .int .i64 r.st, a, b, .list .str r.sts, .int .i64 (r.rd : Int), .int .i64 r.lf]))
   simp only [aj] at hU
   rw [hU]
   first
   | (have hE := jn (l := l) (by omega)
      rw [bv hE (by decide), hE]; all_goals exact ⟨rfl, rfl⟩)
   | (have hE := gi (l := l) (by omega) (by omega)
      rw [bv hE (by decide), hE]; all_goals exact ⟨rfl, rfl⟩)
   | (have hE := kO (l := l) (by omega) (by omega) (k := k) (by omega) hq hbad
      rw [bv hE (by decide), hE]; all_goals exact ⟨rfl, rfl⟩)
   | (have hE := lL (l := l) (by omega) (by omega) (k := k) (by omega) hq hgood hin
      rw [bv hE (by decide), hE]; all_goals exact ⟨rfl, rfl⟩)
   | (have hE := gD (l := l) (by omega) (by omega) fun q hq2 => hq q (by omega)
      have e9 : (U ++ cU 44 3 (U.length + 1) (List.replicate l.length (List.replicate r.ins.length (-1)))).length + 1 = U.length + 2 + l.length := by rw [ah, ew, aI]; omega
      rw [e9, fa hE, hE]; all_goals exact ⟨rfl, rfl⟩)
  (try simp only [zB, reduceCtorEq] at hc19)
  have hgood : aY (l.getD k []) = true := by simpa using hc19
  refine ax ?_
  apply k17; clear k17; refine kp [0, 1, 4, 5, 6, 16, 17, 18, 19, 25] ?_
  refine ad fun _ k21 => ?_
  refine ag hP hN rfl ?_
  iterate 2 (refine ab rfl fun _ k0 => ?_; simp only [zO, zT, acs, reduceCtorEq, O, M, V, aa, Z, Y, List.drop_zero, aE, Int.toNat_zero]; (repeat refine an ?_); (try refine .inl ?_); apply k0; clear k0; simp only [zP, M])
  (refine ab rfl fun _ k0 => ?_; simp only [zE, op1, ev, lkp, di, bz, cz, bnd, Ty.size, reduceCtorEq, O, M, V, aa, Z, Y, Tryd.el22, Tryd.td22, Tryd.td3, Tryd.td9, List.drop_zero, aE, Int.toNat_zero]; (repeat refine an ?_); (try refine .inl ?_); apply k0; clear k0; simp only [zP, M])
  (refine ab rfl fun _ k0 => ?_; simp only [zO, zT, acs, reduceCtorEq, O, M, V, aa, Z, Y, List.drop_zero, aE, Int.toNat_zero]; (repeat refine an ?_); (try refine .inl ?_); apply k0; clear k0; simp only [zP, M])
  refine ab rfl fun _ k0 => ?_
  refine aw (h := am (fA (l.take k) (l.getD k []))) rfl rfl (by first | exact rfl | (simp only [ev, zP, O, M]; exact rfl)) (by simp only [zV, acs, reduceCtorEq, O, M, V, aa, Z, Y, List.drop_zero, aE, Int.toNat_zero]) ?_
  apply k0; clear k0; simp only [zP, M]
  refine af ?_
  apply k21; clear k21; refine kp [0, 1, 4, 5, 6, 16, 17, 18, 19, 25, 30] ?_
  refine cd (fun hc22 => ?_) (fun hc22 => ?_)
  ·(try simp only [zB, reduceCtorEq] at hc22)
   have hin : l.getD k [] ∈ l.take k := by simpa using hc22
   refine ad fun _ k23 => ?_
   refine ag hP hN rfl ?_
   (refine ab rfl fun _ k0 => ?_; simp only [zO, zT, acs, reduceCtorEq, O, M, V, aa, Z, Y]; (repeat refine an ?_); (try refine .inl ?_); apply k0; clear k0; simp only [zP, M])
   refine af ?_
   apply k23; clear k23; refine kp [0, 1, 4, 5, 6, 16, 17, 18, 19, 25, 30] ?_
   refine au ?_
   refine ⟨by first | exact .inl rfl | exact .inr rfl, _, rfl, ?_⟩; simp only [zP, O, M]
   have hU := aD (cg (R := 56) (S := 44) (I := 3) (r := r) (a := a) (b := b) (U := U) (l := l) (x := .vars 56 [.str r.nm, .list .str r.ins, .list .str r.outs, .int .i64 r.inp, .int .i64 r.st, a, b, .list .str r.sts, .int .i64 (r.rd : Int), .int .i64 r.lf]))
   simp only [aj] at hU
   rw [hU]
   first
   | (have hE := jn (l := l) (by omega)
      rw [bv hE (by decide), hE]; all_goals exact ⟨rfl, rfl⟩)
   | (have hE := gi (l := l) (by omega) (by omega)
      rw [bv hE (by decide), hE]; all_goals exact ⟨rfl, rfl⟩)
   | (have hE := kO (l := l) (by omega) (by omega) (k := k) (by omega) hq hbad
      rw [bv hE (by decide), hE]; all_goals exact ⟨rfl, rfl⟩)
   | (have hE := lL (l := l) (by omega) (by omega) (k := k) (by omega) hq hgood hin
      rw [bv hE (by decide), hE]; all_goals exact ⟨rfl, rfl⟩)
   | (have hE := gD (l := l) (by omega) (by omega) fun q hq2 => hq q (by omega)
      have e9 : (U ++ cU 44 3 (U.length + 1) (List.replicate l.length (List.replicate r.ins.length (-1)))).length + 1 = U.length + 2 + l.length := by rw [ah, ew, aI]; omega
      rw [e9, fa hE, hE]; all_goals exact ⟨rfl, rfl⟩)
  (try simp only [zB, reduceCtorEq] at hc22)
  have hnin : l.getD k [] ∉ l.take k := by simpa using hc22
  refine ax ?_
  apply k15; clear k15; refine kp [0, 1, 4, 5, 6, 16, 17, 18, 19, 25, 30] ?_
  refine ag hP hN rfl ?_
  iterate 2 (refine ab rfl fun _ k0 => ?_; simp only [zO, zT, acs, reduceCtorEq, O, M, V, aa, Z, Y]; (repeat refine an ?_); (try refine .inl ?_); apply k0; clear k0; simp only [zP, M])
  refine af ?_
  refine ⟨_, _, ?_, aL [0, 1, 4, 16, 17, 18], k + 1, by omega, fun q hq2 => ?_, rfl, rfl⟩
  · omega
  · by_cases e : q = k
    · rw [e]; exact kG hgood hnin
    · exact hq q (by omega)
 (try simp only [zB, reduceCtorEq] at hc14)
 refine bC ?_
 apply k9; clear k9; refine kp [0, 1, 4, 16, 17, 18, 19] ?_
 refine ad fun _ k24 => ?_
 refine ag hP hN rfl ?_
 iterate 8 (refine ab rfl fun _ k0 => ?_; simp only [zO, zT, acs, reduceCtorEq, O, M, V, aa, Z, Y]; (repeat refine an ?_); (try refine .inl ?_); apply k0; clear k0; simp only [zP, M])
 refine af ?_
 apply k24; clear k24; refine kp [0, 1, 4, 7, 16, 17, 18, 19] ?_
 refine ad fun _ k25 => ?_
 refine ag hP hN rfl ?_
 iterate 5 (refine ab rfl fun _ k0 => ?_; simp only [zO, zT, acs, reduceCtorEq, O, M, V, aa, Z, Y]; (repeat refine an ?_); (try refine .inl ?_); apply k0; clear k0; simp only [zP, M])
 refine af ?_
 apply k25; clear k25; refine kp [0, 1, 4, 7, 16, 17, 18, 19] ?_
 refine ad fun _ k26 => ?_
 have hmu : (l.length : Int) * r.ins.length ≤ 128 * 64 := Int.mul_le_mul (by omega) (by omega) (by omega) (by omega)
 have hm0 : (0 : Int) ≤ (l.length : Int) * r.ins.length := Int.mul_nonneg (by omega) (by omega)
 refine ag hP hN rfl ?_
 iterate 8 (refine ab rfl fun _ k0 => ?_; simp only [zO, zT, acs, reduceCtorEq, O, M, V, aa, Z, Y]; (repeat refine an ?_); (try refine .inl ?_); apply k0; clear k0; simp only [zP, M])
 refine af ?_
 apply k26; clear k26; refine kp [0, 1, 4, 7, 16, 17, 18, 19] ?_
 refine ad fun _ k27 => ?_
 refine ag hP hN rfl ?_
 iterate 5 (refine ab rfl fun _ k0 => ?_; simp only [zO, zT, acs, reduceCtorEq, O, M, V, aa, Z, Y]; (repeat refine an ?_); (try refine .inl ?_); apply k0; clear k0; simp only [zP, M])
 refine ab rfl fun _ k0 => ?_
 refine aw (h := pX _ (l.length : Int) r.ins.length (by omega) (by omega) (by omega) (by omega)) rfl rfl (by first | exact rfl | (simp only [ev, zP, O, M]; exact rfl)) (by simp only [zV, acs, reduceCtorEq, O, M, V, aa, Z, Y]) ?_
 apply k0; clear k0; simp only [zP, M]
 iterate 3 (refine ab rfl fun _ k0 => ?_; simp only [zO, zT, acs, reduceCtorEq, O, M, V, aa, Z, Y]; (repeat refine an ?_); (try refine .inl ?_); apply k0; clear k0; simp only [zP, M])
 refine ab rfl fun _ k0 => ?_
 refine aw (h := pX _ (l.length : Int) r.ins.length (by omega) (by omega) (by omega) (by omega)) rfl rfl (by first | exact rfl | (simp only [ev, zP, O, M]; exact rfl)) (by simp only [zV, acs, reduceCtorEq, O, M, V, aa, Z, Y]) ?_
 apply k0; clear k0; simp only [zP, M]
 iterate 5 (refine ab rfl fun _ k0 => ?_; simp only [zO, zT, acs, reduceCtorEq, O, M, V, aa, Z, Y]; (repeat refine an ?_); (try refine .inl ?_); apply k0; clear k0; simp only [zP, M])
 refine af ?_
 apply k27; clear k27; refine kp [0, 1, 4, 7, 16, 17, 18, 19] ?_
 refine ad fun _ k28 => ?_
 refine ag hP hN rfl ?_
 (refine ab rfl fun _ k0 => ?_; simp only [zO, zT, acs, reduceCtorEq, O, M, V, aa, Z, Y]; (repeat refine an ?_); (try refine .inl ?_); apply k0; clear k0; simp only [zP, M])
 refine af ?_
 apply k28; clear k28; refine kp [0, 1, 4, 7, 16, 17, 18, 19] ?_
 refine au ?_
 refine ⟨by first | exact .inl rfl | exact .inr rfl, _, rfl, ?_⟩; simp only [zP, O, M]
 have hU := aD (cg (R := 56) (S := 44) (I := 3) (r := r) (a := a) (b := b) (U := U) (l := l) (x := .vars 56 [.str r.nm, .list .str r.ins, .list .str r.outs, .int .i64 r.inp, .int .i64 r.st, a, b, .list .str r.sts, .int .i64 (r.rd : Int), .int .i64 r.lf]))
 simp only [aj] at hU
 rw [hU]
 first
 | (have hE := jn (l := l) (by omega)
    rw [bv hE (by decide), hE]; all_goals exact ⟨rfl, rfl⟩)
 | (have hE := gi (l := l) (by omega) (by omega)
    rw [bv hE (by decide), hE]; all_goals exact ⟨rfl, rfl⟩)
 | (have hE := kO (l := l) (by omega) (by omega) (k := k) (by omega) hq hbad
    rw [bv hE (by decide), hE]; all_goals exact ⟨rfl, rfl⟩)
 | (have hE := lL (l := l) (by omega) (by omega) (k := k) (by omega) hq hgood hin
    rw [bv hE (by decide), hE]; all_goals exact ⟨rfl, rfl⟩)
 | (have hE := gD (l := l) (by omega) (by omega) fun q hq2 => hq q (by omega)
    have e9 : (U ++ cU 44 3 (U.length + 1) (List.replicate l.length (List.replicate r.ins.length (-1)))).length + 1 = U.length + 2 + l.length := by rw [ah, ew, aI]; omega
    rw [e9, fa hE, hE]; all_goals exact ⟨rfl, rfl⟩)
set_option maxHeartbeats 1000000 in
theorem tv (r : RS) (a b : AC) (U : List AO) (w : List Bs) (hl : w.length ≤ 1000000) (h0 : 0 < w.length) (hr : r.rd < 5) (hi : r.rd = 3 → 1 ≤ r.ins.length ∧ r.ins.length ≤ 64) : cH Tryd.prog (.vars 56 [.str r.nm, .list .str r.ins, .list .str r.outs, .int .i64 r.inp, .int .i64 r.st, a, b, .list .str r.sts, .int .i64 (r.rd : Int), .int .i64 r.lf] :: U) 38 [.one (.ptr 0 0 0 0), .one (.list .str w)] { av := .one (.int .i64 (ba r w).2), upd := fj (U.length + 1) (f9 56 44 3 r a b U w), new := (f9 56 44 3 r a b U w).drop (U.length + 1), fp := List.range (U.length + 1) } := by
 refine dn _ _ Tryd.func38 rfl (by kernel_rfl) (Nat.le_of_ble_eq_true rfl) (by intro k hk; exact List.mem_range.2 hk) (fun C hP hN hB => ?_)
 replace hB : C.bL.length = U.length + 1 := by rw [hB]; rfl
 replace hN : C.N = 114 := hN
 simp only [aV, M]
 refine ad fun _ k1 => ?_
 refine ag hP hN rfl ?_
 (refine ab rfl fun _ k0 => ?_; simp only [zO, zT, acs, reduceCtorEq, O, M, V, aa, Z, Y, Int.toNat_one]; (repeat refine an ?_); (try refine .inl ?_); apply k0; clear k0; simp only [zP, M])
 refine af ?_
 apply k1; clear k1; refine kp [0, 1, 4] ?_
 refine ad fun _ k2 => ?_
 have hk4 : r.rd ≤ 4 := by omega
 have htk : [AC.str [109, 97, 99, 104, 105, 110, 101], AC.str [105, 110, 112, 117, 116, 115], AC.str [111, 117, 116, 112, 117, 116, 115], AC.str [115, 116, 97, 116, 101, 115], AC.str [115, 116, 97, 114, 116]][r.rd]? = some (AC.str (kwd r.rd)) := by rcases (show r.rd = 0 ∨ r.rd = 1 ∨ r.rd = 2 ∨ r.rd = 3 ∨ r.rd = 4 by omega) with e | e | e | e | e <;> rw [e] <;> rfl
 refine ag hP hN rfl ?_
 iterate 7 (refine ab rfl fun _ k0 => ?_; simp only [zO, zT, acs, reduceCtorEq, O, M, V, aa, Z, Y, Int.toNat_one, htk]; (repeat refine an ?_); (try refine .inl ?_); apply k0; clear k0; simp only [zP, M])
 refine af ?_
 apply k2; clear k2; refine kp [0, 1, 4, 5] ?_
 refine ad fun _ k3 => ?_
 refine ag hP hN rfl ?_
 iterate 6 (refine ab rfl fun _ k0 => ?_; simp only [zO, zT, acs, reduceCtorEq, O, M, V, aa, Z, Y, Int.toNat_one]; (repeat refine an ?_); (try refine .inl ?_); apply k0; clear k0; simp only [zP, M])
 refine' ay (want := false) 5 rfl (m := 18) (by simp only [zP, O, M]; exact rfl) (by kernel_rfl) rfl rfl rfl rfl rfl (fun hg4 => ?a4) ?b4 ?c4
 case a4 =>
  have hq4 := hg4; (try simp only [zB, reduceCtorEq] at hg4); simp only [zE]
  iterate 5 (refine aO rfl fun _ k0 => ?_; simp only [zO, zT, acs, reduceCtorEq, O, M, V, aa, Z, Y, Int.toNat_one]; (repeat refine an ?_); (try refine .inl ?_); apply k0; clear k0; simp only [zP, M])
  (refine ab rfl fun _ k0 => ?_; simp only [zO, zT, acs, reduceCtorEq, O, M, V, aa, Z, Y, Int.toNat_one]; (repeat refine an ?_); (try refine .inl ?_); apply k0; clear k0; simp only [zP, M])
  refine af ?_
  refine ⟨by simp only [zP, O, M]; exact rfl, rfl, ?_, rfl⟩; (repeat refine az rfl ?_); exact aP (by exact rfl) hq4
 case b4 => exact bq
 simp only [aK, aH]
 (refine ab rfl fun _ k0 => ?_; simp only [zO, zT, acs, reduceCtorEq, O, M, V, aa, Z, Y, Int.toNat_one]; (repeat refine an ?_); (try refine .inl ?_); apply k0; clear k0; simp only [zP, M])
 refine af ?_
 apply k3; clear k3; refine kp [0, 1, 4, 5, 6] ?_
 refine ad fun _ k5 => ?_
 refine ad fun _ k6 => ?_
 refine ag hP hN rfl ?_
 iterate 6 (refine ab rfl fun _ k0 => ?_; simp only [zO, zT, acs, reduceCtorEq, O, M, V, aa, Z, Y, Int.toNat_one]; (repeat refine an ?_); (try refine .inl ?_); apply k0; clear k0; simp only [zP, M])
 refine' ay (want := false) 6 rfl (m := 30) (by simp only [zP, O, M]; exact rfl) (by kernel_rfl) rfl rfl rfl rfl rfl (fun hg7 => ?a7) ?b7 ?c7
 case a7 =>
  have hq7 := hg7; (try simp only [zB, reduceCtorEq] at hg7); simp only [zE]
  iterate 2 (refine aO rfl fun _ k0 => ?_; simp only [zO, zT, acs, reduceCtorEq, O, M, V, aa, Z, Y, Int.toNat_one]; (repeat refine an ?_); (try refine .inl ?_); apply k0; clear k0; simp only [zP, M])
  refine' ay (want := true) 3 rfl (m := 32) (by simp only [zP, O, M]; exact rfl) (by kernel_rfl) rfl rfl rfl rfl rfl (fun hg8 => ?a8) ?b8 ?c8
  case a8 =>
   have hq8 := hg8; (try simp only [zB, reduceCtorEq] at hg8); simp only [zE]
   iterate 4 (refine aO rfl fun _ k0 => ?_; simp only [zO, zT, acs, reduceCtorEq, O, M, V, aa, Z, Y, Int.toNat_one]; (repeat refine an ?_); (try refine .inl ?_); apply k0; clear k0; simp only [zP, M])
   refine af ?_
   refine ⟨by simp only [zP, O, M]; exact rfl, rfl, ?_, rfl⟩; (repeat refine az rfl ?_); exact aP (by exact rfl) hq8
  case b8 => exact bq
  simp only [aK, aH]
  (refine ab rfl fun _ k0 => ?_; simp only [zO, zT, acs, reduceCtorEq, O, M, V, aa, Z, Y, Int.toNat_one]; (repeat refine an ?_); (try refine .inl ?_); apply k0; clear k0; simp only [zP, M])
  refine af ?_
  refine ⟨by simp only [zP, O, M]; exact rfl, rfl, ?_, rfl⟩; (repeat refine az rfl ?_); exact aP (by exact rfl) hq7
 case b7 => exact bq
 simp only [aK, aH]
 refine af ?_
 apply k6; clear k6; refine kp [0, 1, 4, 5, 6, 37] ?_
 refine cd (fun hc9 => ?_) (fun hc9 => ?_)
 ·(try simp only [zB, reduceCtorEq] at hc9)
  refine ad fun _ k10 => ?_
  refine ag hP hN rfl ?_
  (refine ab rfl fun _ k0 => ?_; simp only [zO, zT, acs, reduceCtorEq, O, M, V, aa, Z, Y, Int.toNat_one]; (repeat refine an ?_); (try refine .inl ?_); apply k0; clear k0; simp only [zP, M])
  refine af ?_
  apply k10; clear k10; refine kp [0, 1, 4, 5, 6, 37] ?_
  refine au ?_
  refine ⟨by first | exact .inl rfl | exact .inr rfl, _, rfl, ?_⟩; simp only [zP, O, M, Int.toNat_one]
  have hU := aD (cD (R := 56) (S := 44) (I := 3) (r := r) (a := a) (b := b) (U := U) (w := w) (x := .vars 56 [.str r.nm, .list .str r.ins, .list .str r.outs, .int .i64 r.inp, .int .i64 r.st, a, b, .list .str r.sts, .int .i64 (r.rd : Int), .int .i64 r.lf]))
  have hV := aD (cg (R := 56) (S := 44) (I := 3) (r := r) (a := a) (b := b) (U := U) (l := w.drop 1) (x := .vars 56 [.str r.nm, .list .str r.ins, .list .str r.outs, .int .i64 r.inp, .int .i64 r.st, a, b, .list .str r.sts, .int .i64 (r.rd : Int), .int .i64 r.lf]))
  simp only [aj] at hU hV
  rw [hU]
  first
  | (obtain ⟨hE, hF⟩ := jx (R := 56) (S := 44) (I := 3) (a := a) (b := b) (U := U) hc9
     rw [hE, hF]; all_goals exact ⟨rfl, rfl⟩)
  | (have hn3 : ¬ (r.rd : Int) = 3 := by omega
     have hE := dF hc9
     first
     | rw [if_pos (by omega), if_neg (by rw [‹aY (w.getD 1 []) = false›]; decide)] at hE
     | rw [if_pos (by omega), if_pos (by assumption)] at hE
     | rw [if_neg (by omega), if_pos (by omega)] at hE
     | rw [if_neg (by omega), if_neg (by omega), if_pos (by omega)] at hE
     | rw [if_neg (by omega), if_neg (by omega), if_neg (by omega), if_neg (by omega), if_pos (show ixB r.sts (w.getD 1 []) < 0 by assumption)] at hE
     | rw [if_neg (by omega), if_neg (by omega), if_neg (by omega), if_neg (by omega), if_neg (show ¬ ixB r.sts (w.getD 1 []) < 0 by unfold ixB; omega)] at hE
     obtain ⟨hE, hF⟩ := gh (R := 56) (S := 44) (I := 3) (a := a) (b := b) (U := U) (by omega) hE
     rw [hE, hF]; all_goals exact ⟨rfl, rfl⟩)
  | (obtain ⟨hE, hF⟩ := js (R := 56) (S := 44) (I := 3) (a := a) (b := b) (U := U) hc9 (by omega)
     rw [hE, hF, hV]; all_goals exact ⟨rfl, rfl⟩)
 (try simp only [zB, reduceCtorEq] at hc9)
 refine ax ?_
 apply k5; clear k5; refine kp [0, 1, 4, 5, 6, 37] ?_
 refine ad fun _ k11 => ?_
 refine ad fun _ k12 => ?_
 refine ag hP hN rfl ?_
 iterate 4 (refine ab rfl fun _ k0 => ?_; simp only [zO, zT, acs, reduceCtorEq, O, M, V, aa, Z, Y, Int.toNat_one]; (repeat refine an ?_); (try refine .inl ?_); apply k0; clear k0; simp only [zP, M])
 refine af ?_
 apply k12; clear k12; refine kp [0, 1, 4, 5, 6, 37, 41] ?_
 refine aG ?_
 refine ad fun _ k13 => ?_
 refine ag hP hN rfl ?_
 iterate 2 (refine ab rfl fun _ k0 => ?_; simp only [zO, zT, acs, reduceCtorEq, O, M, V, aa, Z, Y, Int.toNat_one]; (repeat refine an ?_); (try refine .inl ?_); apply k0; clear k0; simp only [zP, M])
 refine af ?_
 apply k13; clear k13; refine kp [0, 1, 4, 5, 6, 37, 41, 42] ?_
 refine cd (fun hc14 => ?_) (fun hc14 => ?_)
 ·(try simp only [zB, reduceCtorEq] at hc14)
  refine ad fun _ k15 => ?_
  refine ag hP hN rfl ?_
  iterate 8 (refine ab rfl fun _ k0 => ?_; simp only [zO, zT, acs, reduceCtorEq, O, M, V, aa, Z, Y, Int.toNat_one]; (repeat refine an ?_); (try refine .inl ?_); apply k0; clear k0; simp only [zP, M])
  refine af ?_
  apply k15; clear k15; refine kp [0, 1, 4, 5, 6, 37, 41, 42] ?_
  refine ad fun _ k16 => ?_
  refine ag hP hN rfl ?_
  iterate 3 (refine ab rfl fun _ k0 => ?_; simp only [zO, zT, acs, reduceCtorEq, O, M, V, aa, Z, Y, Int.toNat_one]; (repeat refine an ?_); (try refine .inl ?_); apply k0; clear k0; simp only [zP, M])
  refine ab rfl fun _ k0 => ?_
  refine aw (h := am (kh (w.getD 1 []))) rfl rfl (by first | exact rfl | (simp only [ev, zP, O, M]; exact rfl)) (by simp only [zV, acs, reduceCtorEq, O, M, V, aa, Z, Y, Int.toNat_one]) ?_
  apply k0; clear k0; simp only [zP, M]
  (refine ab rfl fun _ k0 => ?_; simp only [zO, zT, acs, reduceCtorEq, O, M, V, aa, Z, Y, Int.toNat_one]; (repeat refine an ?_); (try refine .inl ?_); apply k0; clear k0; simp only [zP, M])
  refine af ?_
  apply k16; clear k16; refine kp [0, 1, 4, 5, 6, 37, 41, 42, 55] ?_
  refine cd (fun hc17 => ?_) (fun hc17 => ?_)
  ·(try simp only [zB, reduceCtorEq] at hc17)
   refine ad fun _ k18 => ?_
   refine ag hP hN rfl ?_
   (refine ab rfl fun _ k0 => ?_; simp only [zO, zT, acs, reduceCtorEq, O, M, V, aa, Z, Y, Int.toNat_one]; (repeat refine an ?_); (try refine .inl ?_); apply k0; clear k0; simp only [zP, M])
   refine af ?_
   apply k18; clear k18; refine kp [0, 1, 4, 5, 6, 37, 41, 42, 55] ?_
   refine au ?_
   refine ⟨by first | exact .inl rfl | exact .inr rfl, _, rfl, ?_⟩; simp only [zP, O, M, Int.toNat_one]
   have hU := aD (cD (R := 56) (S := 44) (I := 3) (r := r) (a := a) (b := b) (U := U) (w := w) (x := .vars 56 [.str r.nm, .list .str r.ins, .list .str r.outs, .int .i64 r.inp, .int .i64 r.st, a, b, .list .str r.sts, .int .i64 (r.rd : Int), .int .i64 r.lf]))
   have hV := aD (cg (R := 56) (S := 44) (I := 3) (r := r) (a := a) (b := b) (U := U) (l := w.drop 1) (x := .vars 56 [.str r.nm, .list .str r.ins, .list .str r.outs, .int .i64 r.inp, .int .i64 r.st, a, b, .list .str r.sts, .int .i64 (r.rd : Int), .int .i64 r.lf]))
   simp only [aj] at hU hV
   rw [hU]
   first
   | (obtain ⟨hE, hF⟩ := jx (R := 56) (S := 44) (I := 3) (a := a) (b := b) (U := U) hc9
      rw [hE, hF]; all_goals exact ⟨rfl, rfl⟩)
   | (have hn3 : ¬ (r.rd : Int) = 3 := by omega
      have hE := dF hc9
      first
      | rw [if_pos (by omega), if_neg (by rw [‹aY (w.getD 1 []) = false›]; decide)] at hE
      | rw [if_pos (by omega), if_pos (by assumption)] at hE
      | rw [if_neg (by omega), if_pos (by omega)] at hE
      | rw [if_neg (by omega), if_neg (by omega), if_pos (by omega)] at hE
      | rw [if_neg (by omega), if_neg (by omega), if_neg (by omega), if_neg (by omega), if_pos (show ixB r.sts (w.getD 1 []) < 0 by assumption)] at hE
      | rw [if_neg (by omega), if_neg (by omega), if_neg (by omega), if_neg (by omega), if_neg (show ¬ ixB r.sts (w.getD 1 []) < 0 by unfold ixB; omega)] at hE
      obtain ⟨hE, hF⟩ := gh (R := 56) (S := 44) (I := 3) (a := a) (b := b) (U := U) (by omega) hE
      rw [hE, hF]; all_goals exact ⟨rfl, rfl⟩)
   | (obtain ⟨hE, hF⟩ := js (R := 56) (S := 44) (I := 3) (a := a) (b := b) (U := U) hc9 (by omega)
      rw [hE, hF, hV]; all_goals exact ⟨rfl, rfl⟩)
  (try simp only [zB, reduceCtorEq] at hc17)
  refine ax ?_
  apply k11; clear k11; refine kp [0, 1, 4, 5, 6, 37, 41, 42, 55] ?_
  refine ad fun _ k19 => ?_
  refine ag hP hN rfl ?_
  (refine ab rfl fun _ k0 => ?_; simp only [zO, zT, acs, reduceCtorEq, O, M, V, aa, Z, Y, Int.toNat_one]; (repeat refine an ?_); (try refine .inl ?_); apply k0; clear k0; simp only [zP, M])
  refine af ?_
  apply k19; clear k19; refine kp [0, 1, 4, 5, 6, 37, 41, 42, 55] ?_
  refine au ?_
  refine ⟨by first | exact .inl rfl | exact .inr rfl, _, rfl, ?_⟩; simp only [zP, O, M, Int.toNat_one]
  have hU := aD (cD (R := 56) (S := 44) (I := 3) (r := r) (a := a) (b := b) (U := U) (w := w) (x := .vars 56 [.str r.nm, .list .str r.ins, .list .str r.outs, .int .i64 r.inp, .int .i64 r.st, a, b, .list .str r.sts, .int .i64 (r.rd : Int), .int .i64 r.lf]))
  have hV := aD (cg (R := 56) (S := 44) (I := 3) (r := r) (a := a) (b := b) (U := U) (l := w.drop 1) (x := .vars 56 [.str r.nm, .list .str r.ins, .list .str r.outs, .int .i64 r.inp, .int .i64 r.st, a, b, .list .str r.sts, .int .i64 (r.rd : Int), .int .i64 r.lf]))
  simp only [aj] at hU hV
  rw [hU]
  first
  | (obtain ⟨hE, hF⟩ := jx (R := 56) (S := 44) (I := 3) (a := a) (b := b) (U := U) hc9
     rw [hE, hF]; all_goals exact ⟨rfl, rfl⟩)
  | (have hn3 : ¬ (r.rd : Int) = 3 := by omega
     have hE := dF hc9
     first
     | rw [if_pos (by omega), if_neg (by rw [‹aY (w.getD 1 []) = false›]; decide)] at hE
     | rw [if_pos (by omega), if_pos (by assumption)] at hE
     | rw [if_neg (by omega), if_pos (by omega)] at hE
     | rw [if_neg (by omega), if_neg (by omega), if_pos (by omega)] at hE
     | rw [if_neg (by omega), if_neg (by omega), if_neg (by omega), if_neg (by omega), if_pos (show ixB r.sts (w.getD 1 []) < 0 by assumption)] at hE
     | rw [if_neg (by omega), if_neg (by omega), if_neg (by omega), if_neg (by omega), if_neg (show ¬ ixB r.sts (w.getD 1 []) < 0 by unfold ixB; omega)] at hE
     obtain ⟨hE, hF⟩ := gh (R := 56) (S := 44) (I := 3) (a := a) (b := b) (U := U) (by omega) hE
     rw [hE, hF]; all_goals exact ⟨rfl, rfl⟩)
  | (obtain ⟨hE, hF⟩ := js (R := 56) (S := 44) (I := 3) (a := a) (b := b) (U := U) hc9 (by omega)
     rw [hE, hF, hV]; all_goals exact ⟨rfl, rfl⟩)
 (try simp only [zB, reduceCtorEq] at hc14)
 refine ad fun _ k20 => ?_
 refine ag hP hN rfl ?_
 iterate 2 (refine ab rfl fun _ k0 => ?_; simp only [zO, zT, acs, reduceCtorEq, O, M, V, aa, Z, Y, Int.toNat_one]; (repeat refine an ?_); (try refine .inl ?_); apply k0; clear k0; simp only [zP, M])
 refine af ?_
 apply k20; clear k20; refine kp [0, 1, 4, 5, 6, 37, 41, 42, 56] ?_
 refine cd (fun hc21 => ?_) (fun hc21 => ?_)
 ·(try simp only [zB, reduceCtorEq] at hc21)
  refine ad fun _ k22 => ?_
  refine ag hP hN rfl ?_
  iterate 2 (refine ab rfl fun _ k0 => ?_; simp only [zO, zT, acs, reduceCtorEq, O, M, V, aa, Z, Y, Int.toNat_one, aF]; (repeat refine an ?_); (try refine .inl ?_); apply k0; clear k0; simp only [zP, M])
  (refine ab rfl fun _ k0 => ?_; simp only [zE, op1, ev, lkp, di, bz, cz, bnd, Ty.size, i7, cu, dX, Nat.mul_one, br, be, aZ, acs, Ty.dflt, zG, reduceCtorEq, O, M, V, aa, Z, Y, Tryd.el22, Tryd.st24, Tryd.st29, Tryd.st56, Tryd.td1, Tryd.td22, Tryd.td24, Tryd.td29, Tryd.td54, Tryd.td56, Int.toNat_one, aF]; (repeat refine an ?_); (try refine .inl ?_); apply k0; clear k0; simp only [zP, M])
  iterate 5 (refine ab rfl fun _ k0 => ?_; simp only [zO, zT, acs, reduceCtorEq, O, M, V, aa, Z, Y, Int.toNat_one, aF]; (repeat refine an ?_); (try refine .inl ?_); apply k0; clear k0; simp only [zP, M])
  refine af ?_
  apply k22; clear k22; refine kp [0, 1, 4, 5, 6, 37, 41, 42, 56] ?_
  refine ad fun _ k23 => ?_
  refine ag hP hN rfl ?_
  iterate 5 (refine ab rfl fun _ k0 => ?_; simp only [zO, zT, acs, reduceCtorEq, O, M, V, aa, Z, Y, Int.toNat_one]; (repeat refine an ?_); (try refine .inl ?_); apply k0; clear k0; simp only [zP, M])
  refine ab rfl fun _ k0 => ?_
  refine aw (h := am (i6 (w.drop 1))) rfl rfl (by first | exact rfl | (simp only [ev, zP, O, M]; exact rfl)) (by simp only [zV, acs, reduceCtorEq, O, M, V, aa, Z, Y, Int.toNat_one]) ?_
  apply k0; clear k0; simp only [zP, M]
  (refine ab rfl fun _ k0 => ?_; simp only [zO, zT, acs, reduceCtorEq, O, M, V, aa, Z, Y, Int.toNat_one]; (repeat refine an ?_); (try refine .inl ?_); apply k0; clear k0; simp only [zP, M])
  refine af ?_
  apply k23; clear k23; refine kp [0, 1, 4, 5, 6, 37, 41, 42, 56] ?_
  refine au ?_
  refine ⟨by first | exact .inl rfl | exact .inr rfl, _, rfl, ?_⟩; simp only [zP, O, M, Int.toNat_one]
  have hU := aD (cD (R := 56) (S := 44) (I := 3) (r := r) (a := a) (b := b) (U := U) (w := w) (x := .vars 56 [.str r.nm, .list .str r.ins, .list .str r.outs, .int .i64 r.inp, .int .i64 r.st, a, b, .list .str r.sts, .int .i64 (r.rd : Int), .int .i64 r.lf]))
  have hV := aD (cg (R := 56) (S := 44) (I := 3) (r := r) (a := a) (b := b) (U := U) (l := w.drop 1) (x := .vars 56 [.str r.nm, .list .str r.ins, .list .str r.outs, .int .i64 r.inp, .int .i64 r.st, a, b, .list .str r.sts, .int .i64 (r.rd : Int), .int .i64 r.lf]))
  simp only [aj] at hU hV
  rw [hU]
  first
  | (obtain ⟨hE, hF⟩ := jx (R := 56) (S := 44) (I := 3) (a := a) (b := b) (U := U) hc9
     rw [hE, hF]; all_goals exact ⟨rfl, rfl⟩)
  | (have hn3 : ¬ (r.rd : Int) = 3 := by omega
     have hE := dF hc9
     first
     | rw [if_pos (by omega), if_neg (by rw [‹aY (w.getD 1 []) = false›]; decide)] at hE
     | rw [if_pos (by omega), if_pos (by assumption)] at hE
     | rw [if_neg (by omega), if_pos (by omega)] at hE
     | rw [if_neg (by omega), if_neg (by omega), if_pos (by omega)] at hE
     | rw [if_neg (by omega), if_neg (by omega), if_neg (by omega), if_neg (by omega), if_pos (show ixB r.sts (w.getD 1 []) < 0 by assumption)] at hE
     | rw [if_neg (by omega), if_neg (by omega), if_neg (by omega), if_neg (by omega), if_neg (show ¬ ixB r.sts (w.getD 1 []) < 0 by unfold ixB; omega)] at hE
     obtain ⟨hE, hF⟩ := gh (R := 56) (S := 44) (I := 3) (a := a) (b := b) (U := U) (by omega) hE
     rw [hE, hF]; all_goals exact ⟨rfl, rfl⟩)
  | (obtain ⟨hE, hF⟩ := js (R := 56) (S := 44) (I := 3) (a := a) (b := b) (U := U) hc9 (by omega)
     rw [hE, hF, hV]; all_goals exact ⟨rfl, rfl⟩)
 (try simp only [zB, reduceCtorEq] at hc21)
 refine ad fun _ k24 => ?_
 refine ag hP hN rfl ?_
 iterate 2 (refine ab rfl fun _ k0 => ?_; simp only [zO, zT, acs, reduceCtorEq, O, M, V, aa, Z, Y, Int.toNat_one]; (repeat refine an ?_); (try refine .inl ?_); apply k0; clear k0; simp only [zP, M])
 refine af ?_
 apply k24; clear k24; refine kp [0, 1, 4, 5, 6, 37, 41, 42, 56, 71] ?_
 refine cd (fun hc25 => ?_) (fun hc25 => ?_)
 ·(try simp only [zB, reduceCtorEq] at hc25)
  refine ad fun _ k26 => ?_
  refine ag hP hN rfl ?_
  iterate 2 (refine ab rfl fun _ k0 => ?_; simp only [zO, zT, acs, reduceCtorEq, O, M, V, aa, Z, Y, Int.toNat_one, aF]; (repeat refine an ?_); (try refine .inl ?_); apply k0; clear k0; simp only [zP, M])
  (refine ab rfl fun _ k0 => ?_; simp only [zE, op1, ev, lkp, di, bz, cz, bnd, Ty.size, i7, cu, dX, Nat.mul_one, br, be, aZ, acs, Ty.dflt, zG, reduceCtorEq, O, M, V, aa, Z, Y, Tryd.el22, Tryd.st24, Tryd.st29, Tryd.st56, Tryd.td2, Tryd.td22, Tryd.td24, Tryd.td29, Tryd.td54, Tryd.td56, Int.toNat_one, aF]; (repeat refine an ?_); (try refine .inl ?_); apply k0; clear k0; simp only [zP, M])
  iterate 5 (refine ab rfl fun _ k0 => ?_; simp only [zO, zT, acs, reduceCtorEq, O, M, V, aa, Z, Y, Int.toNat_one, aF]; (repeat refine an ?_); (try refine .inl ?_); apply k0; clear k0; simp only [zP, M])
  refine af ?_
  apply k26; clear k26; refine kp [0, 1, 4, 5, 6, 37, 41, 42, 56, 71] ?_
  refine ad fun _ k27 => ?_
  refine ag hP hN rfl ?_
  iterate 5 (refine ab rfl fun _ k0 => ?_; simp only [zO, zT, acs, reduceCtorEq, O, M, V, aa, Z, Y, Int.toNat_one]; (repeat refine an ?_); (try refine .inl ?_); apply k0; clear k0; simp only [zP, M])
  refine ab rfl fun _ k0 => ?_
  refine aw (h := am (i6 (w.drop 1))) rfl rfl (by first | exact rfl | (simp only [ev, zP, O, M]; exact rfl)) (by simp only [zV, acs, reduceCtorEq, O, M, V, aa, Z, Y, Int.toNat_one]) ?_
  apply k0; clear k0; simp only [zP, M]
  (refine ab rfl fun _ k0 => ?_; simp only [zO, zT, acs, reduceCtorEq, O, M, V, aa, Z, Y, Int.toNat_one]; (repeat refine an ?_); (try refine .inl ?_); apply k0; clear k0; simp only [zP, M])
  refine af ?_
  apply k27; clear k27; refine kp [0, 1, 4, 5, 6, 37, 41, 42, 56, 71] ?_
  refine au ?_
  refine ⟨by first | exact .inl rfl | exact .inr rfl, _, rfl, ?_⟩; simp only [zP, O, M, Int.toNat_one]
  have hU := aD (cD (R := 56) (S := 44) (I := 3) (r := r) (a := a) (b := b) (U := U) (w := w) (x := .vars 56 [.str r.nm, .list .str r.ins, .list .str r.outs, .int .i64 r.inp, .int .i64 r.st, a, b, .list .str r.sts, .int .i64 (r.rd : Int), .int .i64 r.lf]))
  have hV := aD (cg (R := 56) (S := 44) (I := 3) (r := r) (a := a) (b := b) (U := U) (l := w.drop 1) (x := .vars 56 [.str r.nm, .list .str r.ins, .list .str r.outs, .int .i64 r.inp, .int .i64 r.st, a, b, .list .str r.sts, .int .i64 (r.rd : Int), .int .i64 r.lf]))
  simp only [aj] at hU hV
  rw [hU]
  first
  | (obtain ⟨hE, hF⟩ := jx (R := 56) (S := 44) (I := 3) (a := a) (b := b) (U := U) hc9
     rw [hE, hF]; all_goals exact ⟨rfl, rfl⟩)
  | (have hn3 : ¬ (r.rd : Int) = 3 := by omega
     have hE := dF hc9
     first
     | rw [if_pos (by omega), if_neg (by rw [‹aY (w.getD 1 []) = false›]; decide)] at hE
     | rw [if_pos (by omega), if_pos (by assumption)] at hE
     | rw [if_neg (by omega), if_pos (by omega)] at hE
     | rw [if_neg (by omega), if_neg (by omega), if_pos (by omega)] at hE
     | rw [if_neg (by omega), if_neg (by omega), if_neg (by omega), if_neg (by omega), if_pos (show ixB r.sts (w.getD 1 []) < 0 by assumption)] at hE
     | rw [if_neg (by omega), if_neg (by omega), if_neg (by omega), if_neg (by omega), if_neg (show ¬ ixB r.sts (w.getD 1 []) < 0 by unfold ixB; omega)] at hE
     obtain ⟨hE, hF⟩ := gh (R := 56) (S := 44) (I := 3) (a := a) (b := b) (U := U) (by omega) hE
     rw [hE, hF]; all_goals exact ⟨rfl, rfl⟩)
  | (obtain ⟨hE, hF⟩ := js (R := 56) (S := 44) (I := 3) (a := a) (b := b) (U := U) hc9 (by omega)
     rw [hE, hF, hV]; all_goals exact ⟨rfl, rfl⟩)
 (try simp only [zB, reduceCtorEq] at hc25)
 refine ad fun _ k28 => ?_
 refine ag hP hN rfl ?_
 iterate 2 (refine ab rfl fun _ k0 => ?_; simp only [zO, zT, acs, reduceCtorEq, O, M, V, aa, Z, Y, Int.toNat_one]; (repeat refine an ?_); (try refine .inl ?_); apply k0; clear k0; simp only [zP, M])
 refine af ?_
 apply k28; clear k28; refine kp [0, 1, 4, 5, 6, 37, 41, 42, 56, 71, 86] ?_
 refine cd (fun hc29 => ?_) (fun hc29 => ?_)
 ·(try simp only [zB, reduceCtorEq] at hc29)
  refine ad fun _ k30 => ?_
  refine ag hP hN rfl ?_
  iterate 2 (refine ab rfl fun _ k0 => ?_; simp only [zO, zT, acs, reduceCtorEq, O, M, V, aa, Z, Y, Int.toNat_one, aF]; (repeat refine an ?_); (try refine .inl ?_); apply k0; clear k0; simp only [zP, M])
  (refine ab rfl fun _ k0 => ?_; simp only [zE, op1, ev, lkp, di, bz, cz, bnd, Ty.size, reduceCtorEq, O, M, V, aa, Z, Y, Tryd.el22, Tryd.td22, Tryd.td54, Int.toNat_one, aF]; (repeat refine an ?_); (try refine .inl ?_); apply k0; clear k0; simp only [zP, M])
  refine ab rfl fun _ k0 => ?_
  refine aw (h := sU r a b U (w.drop 1) (by rw [List.length_drop]; omega) (hi (by omega))) rfl rfl (by first | exact rfl | (simp only [ev, zP, O, M]; exact rfl)) (by simp only [zV, acs, reduceCtorEq, O, M, V, aa, Z, Y, Int.toNat_one, aF]) ?_
  apply k0; clear k0; simp only [zP, M]
  (refine ab rfl fun _ k0 => ?_; simp only [zO, zT, acs, reduceCtorEq, O, M, V, aa, Z, Y, Int.toNat_one, aF]; (repeat refine an ?_); (try refine .inl ?_); apply k0; clear k0; simp only [zP, M])
  refine af ?_
  apply k30; clear k30; refine kp [0, 1, 4, 5, 6, 37, 41, 42, 56, 71, 86] ?_
  refine au ?_
  refine ⟨by first | exact .inl rfl | exact .inr rfl, _, rfl, ?_⟩; simp only [zP, O, M, Int.toNat_one]
  have hU := aD (cD (R := 56) (S := 44) (I := 3) (r := r) (a := a) (b := b) (U := U) (w := w) (x := .vars 56 [.str r.nm, .list .str r.ins, .list .str r.outs, .int .i64 r.inp, .int .i64 r.st, a, b, .list .str r.sts, .int .i64 (r.rd : Int), .int .i64 r.lf]))
  have hV := aD (cg (R := 56) (S := 44) (I := 3) (r := r) (a := a) (b := b) (U := U) (l := w.drop 1) (x := .vars 56 [.str r.nm, .list .str r.ins, .list .str r.outs, .int .i64 r.inp, .int .i64 r.st, a, b, .list .str r.sts, .int .i64 (r.rd : Int), .int .i64 r.lf]))
  simp only [aj] at hU hV
  rw [hU]
  first
  | (obtain ⟨hE, hF⟩ := jx (R := 56) (S := 44) (I := 3) (a := a) (b := b) (U := U) hc9
     rw [hE, hF]; all_goals exact ⟨rfl, rfl⟩)
  | (have hn3 : ¬ (r.rd : Int) = 3 := by omega
     have hE := dF hc9
     first
     | rw [if_pos (by omega), if_neg (by rw [‹aY (w.getD 1 []) = false›]; decide)] at hE
     | rw [if_pos (by omega), if_pos (by assumption)] at hE
     | rw [if_neg (by omega), if_pos (by omega)] at hE
     | rw [if_neg (by omega), if_neg (by omega), if_pos (by omega)] at hE
     | rw [if_neg (by omega), if_neg (by omega), if_neg (by omega), if_neg (by omega), if_pos (show ixB r.sts (w.getD 1 []) < 0 by assumption)] at hE
     | rw [if_neg (by omega), if_neg (by omega), if_neg (by omega), if_neg (by omega), if_neg (show ¬ ixB r.sts (w.getD 1 []) < 0 by unfold ixB; omega)] at hE
     obtain ⟨hE, hF⟩ := gh (R := 56) (S := 44) (I := 3) (a := a) (b := b) (U := U) (by omega) hE
     rw [hE, hF]; all_goals exact ⟨rfl, rfl⟩)
  | (obtain ⟨hE, hF⟩ := js (R := 56) (S := 44) (I := 3) (a := a) (b := b) (U := U) hc9 (by omega)
     rw [hE, hF, hV]; all_goals exact ⟨rfl, rfl⟩)
 (try simp only [zB, reduceCtorEq] at hc29)
 refine ad fun _ k31 => ?_
 refine ag hP hN rfl ?_
 iterate 2 (refine ab rfl fun _ k0 => ?_; simp only [zO, zT, acs, reduceCtorEq, O, M, V, aa, Z, Y, Int.toNat_one]; (repeat refine an ?_); (try refine .inl ?_); apply k0; clear k0; simp only [zP, M])
 refine af ?_
 apply k31; clear k31; refine kp [0, 1, 4, 5, 6, 37, 41, 42, 56, 71, 86, 92] ?_
 refine cd (fun hc32 => ?_) (fun hc32 => ?_)
 ·(try simp only [zB, reduceCtorEq] at hc32)
  refine ad fun _ k33 => ?_
  refine cm hP hN Tryd.mixed rfl ?_
  iterate 8 (refine ab rfl fun _ k0 => ?_; simp only [zO, zT, acs, reduceCtorEq, O, M, V, aa, Z, Y, Int.toNat_one]; (repeat refine an ?_); (try refine .inl ?_); apply k0; clear k0; simp only [zP, M])
  refine ab rfl fun _ k0 => ?_
  refine aw (h := am (fg r.sts (w.getD 1 []))) rfl rfl (by first | exact rfl | (simp only [ev, zP, O, M]; exact rfl)) (by simp only [zV, acs, reduceCtorEq, O, M, V, aa, Z, Y, Int.toNat_one]) ?_
  apply k0; clear k0; simp only [zP, M]
  iterate 5 (refine ab rfl fun _ k0 => ?_; simp only [zO, zT, acs, reduceCtorEq, O, M, V, aa, Z, Y, Int.toNat_one]; (repeat refine an ?_); (try refine .inl ?_); apply k0; clear k0; simp only [zP, M])
  refine af ?_
  refine ⟨by kernel_rfl, ?_⟩
  apply k33; clear k33; refine kp [0, 1, 4, 5, 6, 37, 41, 42, 56, 71, 86, 92] ?_
  refine ad fun _ k34 => ?_
  refine ag hP hN rfl ?_
  iterate 7 (refine ab rfl fun _ k0 => ?_; simp only [zO, zT, acs, reduceCtorEq, O, M, V, aa, Z, Y, Int.toNat_one]; (repeat refine an ?_); (try refine .inl ?_); apply k0; clear k0; simp only [zP, M])
  refine af ?_
  apply k34; clear k34; refine kp [0, 1, 4, 5, 6, 37, 41, 42, 56, 71, 86, 92, 113] ?_
  refine cd (fun hc35 => ?_) (fun hc35 => ?_)
  ·(try simp only [zB, reduceCtorEq] at hc35)
   refine ad fun _ k36 => ?_
   refine ag hP hN rfl ?_
   (refine ab rfl fun _ k0 => ?_; simp only [zO, zT, acs, reduceCtorEq, O, M, V, aa, Z, Y, Int.toNat_one]; (repeat refine an ?_); (try refine .inl ?_); apply k0; clear k0; simp only [zP, M])
   refine af ?_
   apply k36; clear k36; refine kp [0, 1, 4, 5, 6, 37, 41, 42, 56, 71, 86, 92, 113] ?_
   refine au ?_
   refine ⟨by first | exact .inl rfl | exact .inr rfl, _, rfl, ?_⟩; simp only [zP, O, M, Int.toNat_one]
   have hU := aD (cD (R := 56) (S := 44) (I := 3) (r := r) (a := a) (b := b) (U := U) (w := w) (x := .vars 56 [.str r.nm, .list .str r.ins, .list .str r.outs, .int .i64 r.inp, .int .i64 r.st, a, b, .list .str r.sts, .int .i64 (r.rd : Int), .int .i64 r.lf]))
   have hV := aD (cg (R := 56) (S := 44) (I := 3) (r := r) (a := a) (b := b) (U := U) (l := w.drop 1) (x := .vars 56 [.str r.nm, .list .str r.ins, .list .str r.outs, .int .i64 r.inp, .int .i64 r.st, a, b, .list .str r.sts, .int .i64 (r.rd : Int), .int .i64 r.lf]))
   simp only [aj] at hU hV
   rw [hU]
   first
   | (obtain ⟨hE, hF⟩ := jx (R := 56) (S := 44) (I := 3) (a := a) (b := b) (U := U) hc9
      rw [hE, hF]; all_goals exact ⟨rfl, rfl⟩)
   | (have hn3 : ¬ (r.rd : Int) = 3 := by omega
      have hE := dF hc9
      first
      | rw [if_pos (by omega), if_neg (by rw [‹aY (w.getD 1 []) = false›]; decide)] at hE
      | rw [if_pos (by omega), if_pos (by assumption)] at hE
      | rw [if_neg (by omega), if_pos (by omega)] at hE
      | rw [if_neg (by omega), if_neg (by omega), if_pos (by omega)] at hE
      | rw [if_neg (by omega), if_neg (by omega), if_neg (by omega), if_neg (by omega), if_pos (show ixB r.sts (w.getD 1 []) < 0 by assumption)] at hE
      | rw [if_neg (by omega), if_neg (by omega), if_neg (by omega), if_neg (by omega), if_neg (show ¬ ixB r.sts (w.getD 1 []) < 0 by unfold ixB; omega)] at hE
      obtain ⟨hE, hF⟩ := gh (R := 56) (S := 44) (I := 3) (a := a) (b := b) (U := U) (by omega) hE
      rw [hE, hF]; all_goals exact ⟨rfl, rfl⟩)
   | (obtain ⟨hE, hF⟩ := js (R := 56) (S := 44) (I := 3) (a := a) (b := b) (U := U) hc9 (by omega)
      rw [hE, hF, hV]; all_goals exact ⟨rfl, rfl⟩)
  (try simp only [zB, reduceCtorEq] at hc35)
  refine ax ?_
  apply k11; clear k11; refine kp [0, 1, 4, 5, 6, 37, 41, 42, 56, 71, 86, 92, 113] ?_
  refine ad fun _ k37 => ?_
  refine ag hP hN rfl ?_
  (refine ab rfl fun _ k0 => ?_; simp only [zO, zT, acs, reduceCtorEq, O, M, V, aa, Z, Y, Int.toNat_one]; (repeat refine an ?_); (try refine .inl ?_); apply k0; clear k0; simp only [zP, M])
  refine af ?_
  apply k37; clear k37; refine kp [0, 1, 4, 5, 6, 37, 41, 42, 56, 71, 86, 92, 113] ?_
  refine au ?_
  refine ⟨by first | exact .inl rfl | exact .inr rfl, _, rfl, ?_⟩; simp only [zP, O, M, Int.toNat_one]
  have hU := aD (cD (R := 56) (S := 44) (I := 3) (r := r) (a := a) (b := b) (U := U) (w := w) (x := .vars 56 [.str r.nm, .list .str r.ins, .list .str r.outs, .int .i64 r.inp, .int .i64 r.st, a, b, .list .str r.sts, .int .i64 (r.rd : Int), .int .i64 r.lf]))
  have hV := aD (cg (R := 56) (S := 44) (I := 3) (r := r) (a := a) (b := b) (U := U) (l := w.drop 1) (x := .vars 56 [.str r.nm, .list .str r.ins, .list .str r.outs, .int .i64 r.inp, .int .i64 r.st, a, b, .list .str r.sts, .int .i64 (r.rd : Int), .int .i64 r.lf]))
  simp only [aj] at hU hV
  rw [hU]
  first
  | (obtain ⟨hE, hF⟩ := jx (R := 56) (S := 44) (I := 3) (a := a) (b := b) (U := U) hc9
     rw [hE, hF]; all_goals exact ⟨rfl, rfl⟩)
  | (have hn3 : ¬ (r.rd : Int) = 3 := by omega
     have hE := dF hc9
     first
     | rw [if_pos (by omega), if_neg (by rw [‹aY (w.getD 1 []) = false›]; decide)] at hE
     | rw [if_pos (by omega), if_pos (by assumption)] at hE
     | rw [if_neg (by omega), if_pos (by omega)] at hE
     | rw [if_neg (by omega), if_neg (by omega), if_pos (by omega)] at hE
     | rw [if_neg (by omega), if_neg (by omega), if_neg (by omega), if_neg (by omega), if_pos (show ixB r.sts (w.getD 1 []) < 0 by assumption)] at hE
     | rw [if_neg (by omega), if_neg (by omega), if_neg (by omega), if_neg (by omega), if_neg (show ¬ ixB r.sts (w.getD 1 []) < 0 by unfold ixB; omega)] at hE
     obtain ⟨hE, hF⟩ := gh (R := 56) (S := 44) (I := 3) (a := a) (b := b) (U := U) (by omega) hE
     rw [hE, hF]; all_goals exact ⟨rfl, rfl⟩)
  | (obtain ⟨hE, hF⟩ := js (R := 56) (S := 44) (I := 3) (a := a) (b := b) (U := U) hc9 (by omega)
     rw [hE, hF, hV]; all_goals exact ⟨rfl, rfl⟩)
 · exfalso; (try simp only [zB, reduceCtorEq] at hc32); all_goals (first | (cases hc32; done) | omega | (simp at hc32; done) | (simp_all; done))
theorem tn (r : RS) (w : List Bs) (hl : w.length ≤ 1000000) (h0 : 0 < w.length) (hr : r.rd < 5) (hk : LOK r) : cH Tryd.prog (SH 56 44 3 r) 38 [.one (.ptr 0 0 0 0), .one (.list .str w)] { av := .one (.int .i64 (ba r w).2), upd := fj (SH 56 44 3 r).length (SH 56 44 3 (ba r w).1), new := (SH 56 44 3 (ba r w).1).drop (SH 56 44 3 r).length, fp := List.range (SH 56 44 3 r).length } := by
  rw [← ml (r := r) (w := w) fun e => (hk.h3 e).1]
  exact tv r (rdA r) (rdB r) (rdT 44 3 r) w hl h0 hr fun e => (hk.h3 e).2
theorem kW (xs : List Bs) (x : Bs) : bP Tryd.prog 52 [.agg [.list .str xs], .one (.str x)] (.tup [.one (.int .i64 (idA xs x)), .one (.bool (decide (x ∈ xs)))]) := by
 refine aT Tryd.func52 rfl (by kernel_rfl) (Nat.le_of_ble_eq_true rfl) rfl fun C hP hN hB => ?_
 replace hN : C.N = 15 := hN
 simp only [aV, M]
 refine ad fun _ k1 => ?_
 refine ag hP hN rfl ?_
 iterate 3 (refine ab rfl fun _ k0 => ?_; simp only [zO, zT, acs, reduceCtorEq, O, M, V, aa, Z, Y]; (repeat refine an ?_); (try refine .inl ?_); apply k0; clear k0; simp only [zP, M])
 refine af ?_
 apply k1; clear k1; refine kp [0, 1, 2, 4, 5] ?_
 refine ad fun _ k2 => ?_
 refine ag hP hN rfl ?_
 iterate 3 (refine ab rfl fun _ k0 => ?_; simp only [zO, zT, acs, reduceCtorEq, O, M, V, aa, Z, Y]; (repeat refine an ?_); (try refine .inl ?_); apply k0; clear k0; simp only [zP, M])
 refine ab rfl fun _ k0 => ?_
 refine aw (h := am (fg xs x)) rfl rfl (by first | exact rfl | (simp only [ev, zP, O, M]; exact rfl)) (by simp only [zV, acs, reduceCtorEq, O, M, V, aa, Z, Y]) ?_
 apply k0; clear k0; simp only [zP, M]
 (refine ab rfl fun _ k0 => ?_; simp only [zO, zT, acs, reduceCtorEq, O, M, V, aa, Z, Y]; (repeat refine an ?_); (try refine .inl ?_); apply k0; clear k0; simp only [zP, M])
 refine af ?_
 apply k2; clear k2; refine kp [0, 1, 2, 4, 5, 6] ?_
 refine ad fun _ k3 => ?_
 refine ag hP hN rfl ?_
 iterate 6 (refine ab rfl fun _ k0 => ?_; simp only [zO, zT, acs, reduceCtorEq, O, M, V, aa, Z, Y]; (repeat refine an ?_); (try refine .inl ?_); apply k0; clear k0; simp only [zP, M])
 refine af ?_
 apply k3; clear k3; refine kp [0, 1, 2, 4, 5, 6] ?_
 refine au ?_
 refine ⟨nr, _, rfl, ?_⟩; simp only [zF, zP, O, M]
 refine VLE.of_eq ?_
 unfold idA
 by_cases h : x ∈ xs
 · simp [h]
 · simp [h]; decide
set_option maxHeartbeats 1000000 in
theorem ur (r : RS) (w : List Bs) (hk : ROK r) (hl : w.length ≤ 1000000) (hol : r.outs.length ≤ 1000000) : cH Tryd.prog (RT 56 44 3 r) 39 [.one (.ptr 0 0 0 0), .one (.list .str w)] { av := .one (.int .i64 (bI r w).2), upd := fj (RT 56 44 3 r).length (RT 56 44 3 (bI r w).1), new := (RT 56 44 3 (bI r w).1).drop (RT 56 44 3 r).length, fp := List.range (RT 56 44 3 r).length } := by
 refine dn _ _ Tryd.func39 rfl (by kernel_rfl) (Nat.le_of_ble_eq_true rfl) (by intro k hk; exact List.mem_range.2 hk) (fun C hP hN hB => ?_)
 replace hB : C.bL.length = (RT 56 44 3 r).length := by rw [hB]; skip
 replace hN : C.N = 114 := hN
 simp only [aV, M]
 refine ad fun _ k1 => ?_
 refine ag hP hN rfl ?_
 (refine ab rfl fun _ k0 => ?_; simp only [zO, zT, acs, reduceCtorEq, O, M, V, aa, Z, Y, Int.toNat_one, Int.reduceToNat]; (repeat refine an ?_); (try refine .inl ?_); apply k0; clear k0; simp only [zP, M])
 refine af ?_
 apply k1; clear k1; refine kp [0, 1, 4] ?_
 refine ad fun _ k2 => ?_
 refine ad fun _ k3 => ?_
 refine ag hP hN rfl ?_
 iterate 3 (refine ab rfl fun _ k0 => ?_; simp only [zO, zT, acs, reduceCtorEq, O, M, V, aa, Z, Y, Int.toNat_one, Int.reduceToNat]; (repeat refine an ?_); (try refine .inl ?_); apply k0; clear k0; simp only [zP, M])
 refine af ?_
 apply k3; clear k3; refine kp [0, 1, 4, 13] ?_
 refine cd (fun hc4 => ?_) (fun hc4 => ?_)
 ·(try simp only [zB, reduceCtorEq] at hc4)
  refine ad fun _ k5 => ?_
  refine ag hP hN rfl ?_
  (refine ab rfl fun _ k0 => ?_; simp only [zO, zT, acs, reduceCtorEq, O, M, V, aa, Z, Y, Int.toNat_one, Int.reduceToNat]; (repeat refine an ?_); (try refine .inl ?_); apply k0; clear k0; simp only [zP, M])
  refine af ?_
  apply k5; clear k5; refine kp [0, 1, 4, 13] ?_
  refine au ?_
  refine ⟨by first | exact .inl rfl | exact .inr rfl, _, rfl, ?_⟩; simp only [zP, O, M, Int.toNat_one, Int.reduceToNat]
  have hU := aD (iq 56 44 3 r w)
  rw [hU]
  first
  | (rw [nJ (by assumption)]; all_goals exact ⟨rfl, rfl⟩)
  | (rw [nB (by assumption) (ik hbad)]; all_goals exact ⟨rfl, rfl⟩)
  | (rw [nF (by assumption) hm0 hm3 hm1 hm2 (by omega)]; all_goals exact ⟨rfl, rfl⟩)
  | (rw [lj (by assumption) hm0 hm3 hm1 hm2 (by omega)]; subst hr2; subst hr1; all_goals exact ⟨rfl, rfl⟩)
 (try simp only [zB, reduceCtorEq] at hc4)
 refine ax ?_
 apply k2; clear k2; refine kp [0, 1, 4, 13] ?_
 refine ad fun _ k6 => ?_
 refine cm hP hN Tryd.mixed rfl ?_
 iterate 7 (refine ab rfl fun _ k0 => ?_; simp only [zO, zT, acs, reduceCtorEq, O, M, V, aa, Z, Y, Int.toNat_one, Int.reduceToNat, ez, rdC]; (repeat refine an ?_); (try refine .inl ?_); apply k0; clear k0; simp only [zP, M])
 refine ab rfl fun _ k0 => ?_
 refine aw (h := am (fg r.sts (w.getD 0 []))) rfl rfl (by first | exact rfl | (simp only [ev, zP, O, M]; exact rfl)) (by simp only [zV, acs, reduceCtorEq, O, M, V, aa, Z, Y, Int.toNat_one, Int.reduceToNat, ez, rdC]) ?_
 apply k0; clear k0; simp only [zP, M]
 iterate 7 (refine ab rfl fun _ k0 => ?_; simp only [zO, zT, acs, reduceCtorEq, O, M, V, aa, Z, Y, Int.toNat_one, Int.reduceToNat, ez, rdC]; (repeat refine an ?_); (try refine .inl ?_); apply k0; clear k0; simp only [zP, M])
 refine ab rfl fun _ k0 => ?_
 refine aw (h := am (fg r.sts (w.getD 3 []))) rfl rfl (by first | exact rfl | (simp only [ev, zP, O, M]; exact rfl)) (by simp only [zV, acs, reduceCtorEq, O, M, V, aa, Z, Y, Int.toNat_one, Int.reduceToNat, ez, rdC]) ?_
 apply k0; clear k0; simp only [zP, M]
 iterate 2 (refine ab rfl fun _ k0 => ?_; simp only [zO, zT, acs, reduceCtorEq, O, M, V, aa, Z, Y, Int.toNat_one, Int.reduceToNat, ez, rdC]; (repeat refine an ?_); (try refine .inl ?_); apply k0; clear k0; simp only [zP, M])
 refine af ?_
 refine ⟨by kernel_rfl, ?_⟩
 apply k6; clear k6; refine kp [0, 1, 4, 5, 6, 13] ?_
 refine ad fun _ k7 => ?_
 refine cm hP hN Tryd.mixed rfl ?_
 iterate 8 (refine ab rfl fun _ k0 => ?_; simp only [zO, zT, acs, reduceCtorEq, O, M, V, aa, Z, Y, Int.toNat_one, Int.reduceToNat, ez, rdC]; (repeat refine an ?_); (try refine .inl ?_); apply k0; clear k0; simp only [zP, M])
 refine ab rfl fun _ k0 => ?_
 refine aw (h := am (kW r.ins (w.getD 1 []))) rfl rfl (by first | exact rfl | (simp only [ev, zP, O, M]; exact rfl)) (by simp only [zV, acs, reduceCtorEq, O, M, V, aa, Z, Y, Int.toNat_one, Int.reduceToNat, ez, rdC]) ?_
 apply k0; clear k0; simp only [zP, M]
 iterate 5 (refine ab rfl fun _ k0 => ?_; simp only [zO, zT, acs, reduceCtorEq, O, M, V, aa, Z, Y, Int.toNat_one, Int.reduceToNat, ez, rdC]; (repeat refine an ?_); (try refine .inl ?_); apply k0; clear k0; simp only [zP, M])
 refine af ?_
 refine ⟨by kernel_rfl, ?_⟩
 apply k7; clear k7; refine kp [0, 1, 4, 5, 6, 7, 8, 13] ?_
 refine ad fun _ k8 => ?_
 refine cm hP hN Tryd.mixed rfl ?_
 iterate 8 (refine ab rfl fun _ k0 => ?_; simp only [zO, zT, acs, reduceCtorEq, O, M, V, aa, Z, Y, Int.toNat_one, Int.reduceToNat, ez, rdC]; (repeat refine an ?_); (try refine .inl ?_); apply k0; clear k0; simp only [zP, M])
 refine ab rfl fun _ k0 => ?_
 refine aw (h := am (kW r.outs (w.getD 2 []))) rfl rfl (by first | exact rfl | (simp only [ev, zP, O, M]; exact rfl)) (by simp only [zV, acs, reduceCtorEq, O, M, V, aa, Z, Y, Int.toNat_one, Int.reduceToNat, ez, rdC]) ?_
 apply k0; clear k0; simp only [zP, M]
 iterate 5 (refine ab rfl fun _ k0 => ?_; simp only [zO, zT, acs, reduceCtorEq, O, M, V, aa, Z, Y, Int.toNat_one, Int.reduceToNat, ez, rdC]; (repeat refine an ?_); (try refine .inl ?_); apply k0; clear k0; simp only [zP, M])
 refine af ?_
 refine ⟨by kernel_rfl, ?_⟩
 apply k8; clear k8; refine kp [0, 1, 4, 5, 6, 7, 8, 9, 10, 13] ?_
 refine ad fun _ k9 => ?_
 refine aG ?_
 refine ad fun _ k10 => ?_
 refine ag hP hN rfl ?_
 iterate 3 (refine ab rfl fun _ k0 => ?_; simp only [zO, zT, acs, reduceCtorEq, O, M, V, aa, Z, Y, Int.toNat_one, Int.reduceToNat]; (repeat refine an ?_); (try refine .inl ?_); apply k0; clear k0; simp only [zP, M])
 refine' ay (want := false) 2 rfl (m := 57) (by simp only [zP, O, M]; exact rfl) (by kernel_rfl) rfl rfl rfl rfl rfl (fun hg11 => ?a11) ?b11 ?c11
 case a11 =>
  have hq11 := hg11; (try simp only [zB, reduceCtorEq] at hg11); simp only [zE]
  iterate 2 (refine aO rfl fun _ k0 => ?_; simp only [zO, zT, acs, reduceCtorEq, O, M, V, aa, Z, Y, Int.toNat_one, Int.reduceToNat]; (repeat refine an ?_); (try refine .inl ?_); apply k0; clear k0; simp only [zP, M])
  (refine ab rfl fun _ k0 => ?_; simp only [zO, zT, acs, reduceCtorEq, O, M, V, aa, Z, Y, Int.toNat_one, Int.reduceToNat]; (repeat refine an ?_); (try refine .inl ?_); apply k0; clear k0; simp only [zP, M])
  refine af ?_
  refine ⟨by simp only [zP, O, M]; exact rfl, rfl, ?_, rfl⟩; (repeat refine az rfl ?_); exact aP (by exact rfl) hq11
 case b11 => exact bq
 simp only [aK, aH]
 (refine ab rfl fun _ k0 => ?_; simp only [zO, zT, acs, reduceCtorEq, O, M, V, aa, Z, Y, Int.toNat_one, Int.reduceToNat]; (repeat refine an ?_); (try refine .inl ?_); apply k0; clear k0; simp only [zP, M])
 refine' ay (want := false) 2 rfl (m := 61) (by simp only [zP, O, M]; exact rfl) (by kernel_rfl) rfl rfl rfl rfl rfl (fun hg12 => ?a12) ?b12 ?c12
 case a12 =>
  have hq12 := hg12; (try simp only [zB, reduceCtorEq] at hg12); simp only [zE]
  iterate 2 (refine aO rfl fun _ k0 => ?_; simp only [zO, zT, acs, reduceCtorEq, O, M, V, aa, Z, Y, Int.toNat_one, Int.reduceToNat]; (repeat refine an ?_); (try refine .inl ?_); apply k0; clear k0; simp only [zP, M])
  (refine ab rfl fun _ k0 => ?_; simp only [zO, zT, acs, reduceCtorEq, O, M, V, aa, Z, Y, Int.toNat_one, Int.reduceToNat]; (repeat refine an ?_); (try refine .inl ?_); apply k0; clear k0; simp only [zP, M])
  refine af ?_
  refine ⟨by simp only [zP, O, M]; exact rfl, rfl, ?_, rfl⟩; (repeat refine az rfl ?_); exact aP (by exact rfl) hq12
 case b12 => exact bq
 simp only [aK, aH]
 (refine ab rfl fun _ k0 => ?_; simp only [zO, zT, acs, reduceCtorEq, O, M, V, aa, Z, Y, Int.toNat_one, Int.reduceToNat]; (repeat refine an ?_); (try refine .inl ?_); apply k0; clear k0; simp only [zP, M])
 refine' ay (want := false) 2 rfl (m := 65) (by simp only [zP, O, M]; exact rfl) (by kernel_rfl) rfl rfl rfl rfl rfl (fun hg13 => ?a13) ?b13 ?c13
 case a13 =>
  have hq13 := hg13; (try simp only [zB, reduceCtorEq] at hg13); simp only [zE]
  iterate 2 (refine aO rfl fun _ k0 => ?_; simp only [zO, zT, acs, reduceCtorEq, O, M, V, aa, Z, Y, Int.toNat_one, Int.reduceToNat]; (repeat refine an ?_); (try refine .inl ?_); apply k0; clear k0; simp only [zP, M])
  (refine ab rfl fun _ k0 => ?_; simp only [zO, zT, acs, reduceCtorEq, O, M, V, aa, Z, Y, Int.toNat_one, Int.reduceToNat]; (repeat refine an ?_); (try refine .inl ?_); apply k0; clear k0; simp only [zP, M])
  refine af ?_
  refine ⟨by simp only [zP, O, M]; exact rfl, rfl, ?_, rfl⟩; (repeat refine az rfl ?_); exact aP (by exact rfl) hq13
 case b13 => exact bq
 simp only [aK, aH]
 (refine ab rfl fun _ k0 => ?_; simp only [zO, zT, acs, reduceCtorEq, O, M, V, aa, Z, Y, Int.toNat_one, Int.reduceToNat]; (repeat refine an ?_); (try refine .inl ?_); apply k0; clear k0; simp only [zP, M])
 refine af ?_
 apply k10; clear k10; refine kp [0, 1, 4, 5, 6, 7, 8, 9, 10, 13, 54] ?_
 refine cd (fun hc14 => ?_) (fun hc14 => ?_)
 ·(try simp only [zB, reduceCtorEq] at hc14)
  have hbad := hc14
  refine ad fun _ k15 => ?_
  refine ag hP hN rfl ?_
  (refine ab rfl fun _ k0 => ?_; simp only [zO, zT, acs, reduceCtorEq, O, M, V, aa, Z, Y, Int.toNat_one, Int.reduceToNat]; (repeat refine an ?_); (try refine .inl ?_); apply k0; clear k0; simp only [zP, M])
  refine af ?_
  apply k15; clear k15; refine kp [0, 1, 4, 5, 6, 7, 8, 9, 10, 13, 54] ?_
  refine au ?_
  refine ⟨by first | exact .inl rfl | exact .inr rfl, _, rfl, ?_⟩; simp only [zP, O, M, Int.toNat_one, Int.reduceToNat]
  have hU := aD (iq 56 44 3 r w)
  rw [hU]
  first
  | (rw [nJ (by assumption)]; all_goals exact ⟨rfl, rfl⟩)
  | (rw [nB (by assumption) (ik hbad)]; all_goals exact ⟨rfl, rfl⟩)
  | (rw [nF (by assumption) hm0 hm3 hm1 hm2 (by omega)]; all_goals exact ⟨rfl, rfl⟩)
  | (rw [lj (by assumption) hm0 hm3 hm1 hm2 (by omega)]; subst hr2; subst hr1; all_goals exact ⟨rfl, rfl⟩)
 (try simp only [zB, reduceCtorEq] at hc14)
 have hgd := hc14
 obtain ⟨hm0, hm3, hm1, hm2⟩ := tM hgd
 have hp0 := dA hm0; have hp1 := dA hm1; have hp2 := dA hm2; have hp3 := dA hm3
 have hnl := hk.nl; have hol2 := hk.ol; have hrl := hk.rl (pos r.sts (w.getD 0 [])) (by omega); have hql := hk.ql (pos r.sts (w.getD 0 [])) (by omega)
 have hi9 : idA r.ins (w.getD 1 []) = (pos r.ins (w.getD 1 []) : Int) := if_pos hm1
 have ho9 : idA r.outs (w.getD 2 []) = (pos r.outs (w.getD 2 []) : Int) := if_pos hm2
 refine ad fun _ k16 => ?_
 have hc1 : (cq 2 r.nx.length).getD (pos r.sts (w.getD 0 [])) .junk = .row (2 + pos r.sts (w.getD 0 [])) 0 := lP (by omega)
 have hl2 := ub (R := 56) (S := 44) (I := 3) (r := r) (s := pos r.sts (w.getD 0 [])) (by omega)
 refine ag hP hN rfl ?_
 iterate 14 (refine ab rfl fun _ k0 => ?_; simp only [zO, zT, acs, reduceCtorEq, O, M, V, aa, Z, Y, Int.toNat_one, Int.reduceToNat, ez, rdC, pR, hm0, hm1, hm2, hm3, if_true, hi9, ho9, aE, Nat.div_one, hc1, cF, hl2, Nat.mul_one, Nat.add_zero]; (repeat refine an ?_); (try refine .inl ?_); apply k0; clear k0; simp only [zP, M])
 refine af ?_
 apply k16; clear k16; refine kp [0, 1, 4, 5, 6, 7, 8, 9, 10, 13, 54, 69] ?_
 refine cd (fun hc17 => ?_) (fun hc17 => ?_)
 ·(try simp only [zB, reduceCtorEq] at hc17)
  have hex := hc17
  refine ad fun _ k18 => ?_
  refine ag hP hN rfl ?_
  (refine ab rfl fun _ k0 => ?_; simp only [zO, zT, acs, reduceCtorEq, O, M, V, aa, Z, Y, Int.toNat_one, Int.reduceToNat]; (repeat refine an ?_); (try refine .inl ?_); apply k0; clear k0; simp only [zP, M])
  refine af ?_
  apply k18; clear k18; refine kp [0, 1, 4, 5, 6, 7, 8, 9, 10, 13, 54, 69] ?_
  refine au ?_
  refine ⟨by first | exact .inl rfl | exact .inr rfl, _, rfl, ?_⟩; simp only [zP, O, M, Int.toNat_one, Int.reduceToNat]
  have hU := aD (iq 56 44 3 r w)
  rw [hU]
  first
  | (rw [nJ (by assumption)]; all_goals exact ⟨rfl, rfl⟩)
  | (rw [nB (by assumption) (ik hbad)]; all_goals exact ⟨rfl, rfl⟩)
  | (rw [nF (by assumption) hm0 hm3 hm1 hm2 (by omega)]; all_goals exact ⟨rfl, rfl⟩)
  | (rw [lj (by assumption) hm0 hm3 hm1 hm2 (by omega)]; subst hr2; subst hr1; all_goals exact ⟨rfl, rfl⟩)
 (try simp only [zB, reduceCtorEq] at hc17)
 have hnx := hc17
 refine ax ?_
 apply k9; clear k9; refine kp [0, 1, 4, 5, 6, 7, 8, 9, 10, 13, 54, 69] ?_
 refine ad fun _ k19 => ?_
 have hs2 := ul (R := 56) (S := 44) (I := 3) (r := r) (s := pos r.sts (w.getD 0 [])) (by omega) ((r.nx.getD (pos r.sts (w.getD 0 [])) []).set (pos r.ins (w.getD 1 [])) (pos r.sts (w.getD 3 []) : Int))
 obtain ⟨r1, hr1⟩ : ∃ r1, { r with nx := r.nx.set (pos r.sts (w.getD 0 [])) ((r.nx.getD (pos r.sts (w.getD 0 [])) []).set (pos r.ins (w.getD 1 [])) (pos r.sts (w.getD 3 []) : Int)) } = r1 := ⟨_, rfl⟩
 rw [hr1] at hs2
 have hn1 : r1.nx.length = r.nx.length := by rw [← hr1]; simp
 have ho1 : r1.ot = r.ot := by rw [← hr1]
 have hf1 : r1.lf = r.lf := by rw [← hr1]
 have ht0 : (if w.getD 0 [] ∈ r.sts then (pos r.sts (w.getD 0 []) : Int) else -1) = pos r.sts (w.getD 0 []) := if_pos hm0
 have ht3 : (if w.getD 3 [] ∈ r.sts then (pos r.sts (w.getD 3 []) : Int) else -1) = pos r.sts (w.getD 3 []) := if_pos hm3
 rw [ht0, ht3, hi9, ho9]
 refine ag hP hN rfl ?_
 iterate 13 (refine ab rfl fun _ k0 => ?_; simp only [zO, zT, acs, reduceCtorEq, O, M, V, aa, Z, Y, Int.toNat_one, Int.reduceToNat, ez, rdC, pR, aE, Nat.div_one, hc1, cF, hl2, Nat.mul_one, Nat.add_zero]; (repeat refine an ?_); (try refine .inl ?_); apply k0; clear k0; simp only [zP, M, hs2])
 refine af ?_
 apply k19; clear k19; refine kp [0, 1, 4, 5, 6, 7, 8, 9, 10, 13, 54, 69] ?_
 refine ad fun _ k20 => ?_
 have hc4 : (cq (3 + r1.nx.length) r1.ot.length).getD (pos r.sts (w.getD 0 [])) .junk = .row (3 + r1.nx.length + pos r.sts (w.getD 0 [])) 0 := lP (by rw [ho1]; omega)
 have hl4 := ue (R := 56) (S := 44) (I := 3) (r := r1) (s := pos r.sts (w.getD 0 [])) (by rw [ho1]; omega)
 have hs4 := uk (R := 56) (S := 44) (I := 3) (r := r1) (s := pos r.sts (w.getD 0 [])) (by rw [ho1]; omega) ((r1.ot.getD (pos r.sts (w.getD 0 [])) []).set (pos r.ins (w.getD 1 [])) (pos r.outs (w.getD 2 []) : Int))
 have hq1 : (r1.ot.getD (pos r.sts (w.getD 0 [])) []).length = r.ins.length := by rw [ho1]; exact hql
 have hl9 : r1.ot.length = r.sts.length := by rw [ho1]; exact hol2
 obtain ⟨r2, hr2⟩ : ∃ r2, { r1 with ot := r1.ot.set (pos r.sts (w.getD 0 [])) ((r1.ot.getD (pos r.sts (w.getD 0 [])) []).set (pos r.ins (w.getD 1 [])) (pos r.outs (w.getD 2 []) : Int)) } = r2 := ⟨_, rfl⟩
 rw [hr2] at hs4
 have hf2 : r2.lf = r.lf := by rw [← hr2]; exact hf1
 refine ag hP hN rfl ?_
 iterate 13 (refine ab rfl fun _ k0 => ?_; simp only [zO, zT, acs, reduceCtorEq, O, M, V, aa, Z, Y, Int.toNat_one, Int.reduceToNat, ez, rdC, sN, aE, Nat.div_one, hc4, cF, hl4, Nat.mul_one, Nat.add_zero]; (repeat refine an ?_); (try refine .inl ?_); apply k0; clear k0; simp only [zP, M, hs4])
 refine af ?_
 apply k20; clear k20; refine kp [0, 1, 4, 5, 6, 7, 8, 9, 10, 13, 54, 69] ?_
 refine ad fun _ k21 => ?_
 have hlf0 := hk.l0; have hlf1 := hk.l1
 have hs0 := um (R := 56) (S := 44) (I := 3) (r := r2) (r2.lf - 1)
 refine ag hP hN rfl ?_
 iterate 8 (refine ab rfl fun _ k0 => ?_; simp only [zO, zT, acs, reduceCtorEq, O, M, V, aa, Z, Y, Int.toNat_one, Int.reduceToNat, ez, rdC]; (repeat refine an ?_); (try refine .inl ?_); apply k0; clear k0; simp only [zP, M, hs0])
 refine af ?_
 apply k21; clear k21; refine kp [0, 1, 4, 5, 6, 7, 8, 9, 10, 13, 54, 69] ?_
 refine ad fun _ k22 => ?_
 refine ag hP hN rfl ?_
 (refine ab rfl fun _ k0 => ?_; simp only [zO, zT, acs, reduceCtorEq, O, M, V, aa, Z, Y, Int.toNat_one, Int.reduceToNat]; (repeat refine an ?_); (try refine .inl ?_); apply k0; clear k0; simp only [zP, M])
 refine af ?_
 apply k22; clear k22; refine kp [0, 1, 4, 5, 6, 7, 8, 9, 10, 13, 54, 69] ?_
 refine au ?_
 refine ⟨by first | exact .inl rfl | exact .inr rfl, _, rfl, ?_⟩; simp only [zP, O, M, Int.toNat_one, Int.reduceToNat]
 have hU := aD (iq 56 44 3 r w)
 rw [hU]
 first
 | (rw [nJ (by assumption)]; all_goals exact ⟨rfl, rfl⟩)
 | (rw [nB (by assumption) (ik hbad)]; all_goals exact ⟨rfl, rfl⟩)
 | (rw [nF (by assumption) hm0 hm3 hm1 hm2 (by omega)]; all_goals exact ⟨rfl, rfl⟩)
 | (rw [lj (by assumption) hm0 hm3 hm1 hm2 (by omega)]; subst hr2; subst hr1; all_goals exact ⟨rfl, rfl⟩)
theorem uA (r : RS) (w : List Bs) (hl : w.length ≤ 1000000) (hr : 5 ≤ r.rd) (hk : LOK r) : cH Tryd.prog (SH 56 44 3 r) 39 [.one (.ptr 0 0 0 0), .one (.list .str w)] { av := .one (.int .i64 (bI r w).2), upd := fj (SH 56 44 3 r).length (SH 56 44 3 (bI r w).1), new := (SH 56 44 3 (bI r w).1).drop (SH 56 44 3 r).length, fp := List.range (SH 56 44 3 r).length } := by
  obtain ⟨ht, h1, h2⟩ := hk.h5 hr
  rw [eO ht, eO (oA.trans ht)]
  exact ur r w h1 hl h2
open Go.Shelf in
def Tryd.lays138_ren : Go.Shelf.Ren := ⟨fun | 138 => 71 | 195 => 84 | 218 => 86 | 143 => 72 | 219 => 87 | 217 => 48 | 225 => 95 | 224 => 96 | 267 => 97 | 266 => 68 | 314 => 101 | n => n, fun | 9 => 9 | 3 => 3 | 4 => 4 | 5 => 5 | 0 => 0 | 46 => 88 | 146 => 142 | 51 => 107 | n => n, fun | 1 => 0 | n => n⟩
theorem Tryd.lays138 : Go.Proofs.Lays.n138 Tryd.prog Tryd.lays138_ren := {
  mixed := by kernel_rfl,
  f138 := Tryd.func71.trans (congrArg some (by kernel_rfl)),
  f143 := Tryd.func72.trans (congrArg some (by kernel_rfl)),
  f195 := Tryd.func84.trans (congrArg some (by kernel_rfl)),
  f217 := Tryd.func48.trans (congrArg some (by kernel_rfl)),
  f218 := Tryd.func86.trans (congrArg some (by kernel_rfl)),
  f219 := Tryd.func87.trans (congrArg some (by kernel_rfl)),
  f224 := Tryd.func96.trans (congrArg some (by kernel_rfl)),
  f225 := Tryd.func95.trans (congrArg some (by kernel_rfl)),
  f266 := Tryd.func68.trans (congrArg some (by kernel_rfl)),
  f267 := Tryd.func97.trans (congrArg some (by kernel_rfl)),
  f314 := Tryd.func101.trans (congrArg some (by kernel_rfl)),
  t0 := Tryd.underlying0,
  a0 := Tryd.isAgg0,
  z0 := Tryd.sizeOf0,
  v0 := Tryd.zeroValue0,
  t3 := Tryd.underlying3,
  a3 := Tryd.isAgg3,
  z3 := Tryd.sizeOf3,
  v3 := Tryd.zeroValue3,
  t4 := Tryd.underlying4,
  a4 := Tryd.isAgg4,
  z4 := Tryd.sizeOf4,
  v4 := Tryd.zeroValue4,
  t5 := Tryd.underlying5,
  a5 := Tryd.isAgg5,
  z5 := Tryd.sizeOf5,
  v5 := Tryd.zeroValue5,
  t9 := Tryd.underlying9,
  a9 := Tryd.isAgg9,
  z9 := Tryd.sizeOf9,
  v9 := Tryd.zeroValue9,
  t46 := Tryd.underlying88,
  a46 := Tryd.isAgg88,
  z46 := Tryd.sizeOf88,
  v46 := Tryd.zeroValue88,
  t51 := Tryd.underlying107,
  a51 := Tryd.isAgg107,
  z51 := Tryd.sizeOf107,
  v51 := Tryd.zeroValue107,
  t146 := Tryd.underlying142,
  a146 := Tryd.isAgg142,
  z146 := Tryd.sizeOf142,
  v146 := Tryd.zeroValue142,
  g1 := by kernel_rfl }
theorem t8 (s : List UInt8) (c : UInt8) : bP Tryd.prog 71 [.one (.str s), .one (.str [c])] (.one (.int .i64 (Lib.countByte s c : Int))) := by
  refine ⟨⟨Tryd.f71, Tryd.func71, by kernel_rfl, by kernel_rfl⟩, fun C L σ w vs hP hi ha => ?_⟩
  match vs, ha with
  | [v1, v2], ⟨h1, h2, _⟩ =>
  have e1 : v1 = .string ⟨s.toArray⟩ := h1.2
  have e2 := h2.2
  subst e1
  simp only [RC0] at e2
  subst e2
  refine Calls.mono (Any.strings_Count_one Tryd.lays138 ⟨s.toArray⟩ c w) fun e w' hh => ?_
  obtain ⟨e1, e2⟩ := hh
  subst e2
  exact ⟨_, e1, MORE.refl _, rfl, rfl⟩
open Go.Shelf in
def Tryd.lays143_ren : Go.Shelf.Ren := ⟨fun | 143 => 72 | 219 => 87 | 217 => 48 | 225 => 95 | 224 => 96 | 267 => 97 | 266 => 68 | 314 => 101 | n => n, fun | 9 => 9 | 3 => 3 | 4 => 4 | 5 => 5 | 46 => 88 | 146 => 142 | 51 => 107 | n => n, fun | 1 => 0 | n => n⟩
theorem Tryd.lays143 : Go.Proofs.Lays.n143 Tryd.prog Tryd.lays143_ren := {
  mixed := by kernel_rfl,
  f143 := Tryd.func72.trans (congrArg some (by kernel_rfl)),
  f217 := Tryd.func48.trans (congrArg some (by kernel_rfl)),
  f219 := Tryd.func87.trans (congrArg some (by kernel_rfl)),
  f224 := Tryd.func96.trans (congrArg some (by kernel_rfl)),
  f225 := Tryd.func95.trans (congrArg some (by kernel_rfl)),
  f266 := Tryd.func68.trans (congrArg some (by kernel_rfl)),
  f267 := Tryd.func97.trans (congrArg some (by kernel_rfl)),
  f314 := Tryd.func101.trans (congrArg some (by kernel_rfl)),
  t3 := Tryd.underlying3,
  a3 := Tryd.isAgg3,
  z3 := Tryd.sizeOf3,
  v3 := Tryd.zeroValue3,
  t4 := Tryd.underlying4,
  a4 := Tryd.isAgg4,
  z4 := Tryd.sizeOf4,
  v4 := Tryd.zeroValue4,
  t5 := Tryd.underlying5,
  a5 := Tryd.isAgg5,
  z5 := Tryd.sizeOf5,
  v5 := Tryd.zeroValue5,
  t9 := Tryd.underlying9,
  a9 := Tryd.isAgg9,
  z9 := Tryd.sizeOf9,
  v9 := Tryd.zeroValue9,
  t46 := Tryd.underlying88,
  a46 := Tryd.isAgg88,
  z46 := Tryd.sizeOf88,
  v46 := Tryd.zeroValue88,
  t51 := Tryd.underlying107,
  a51 := Tryd.isAgg107,
  z51 := Tryd.sizeOf107,
  v51 := Tryd.zeroValue107,
  t146 := Tryd.underlying142,
  a146 := Tryd.isAgg142,
  z146 := Tryd.sizeOf142,
  v146 := Tryd.zeroValue142,
  g1 := by kernel_rfl }
theorem tO (s : List UInt8) (c : UInt8) : bP Tryd.prog 72 [.one (.str s), .one (.str [c])] (.one (.int .i64 (Lib.indexByte s c))) := by
  refine ⟨⟨Tryd.f72, Tryd.func72, by kernel_rfl, by kernel_rfl⟩, fun C L σ w vs hP hi ha => ?_⟩
  match vs, ha with
  | [v1, v2], ⟨h1, h2, _⟩ =>
  have e1 : v1 = .string ⟨s.toArray⟩ := h1.2
  have e2 := h2.2
  subst e1
  simp only [RC0] at e2
  subst e2
  refine Calls.mono (Any.strings_Index_one Tryd.lays143 ⟨s.toArray⟩ c w) fun e w' hh => ?_
  obtain ⟨e1, e2⟩ := hh
  subst e2
  exact ⟨_, e1, MORE.refl _, rfl, rfl⟩
set_option maxHeartbeats 1000000 in
theorem qL (s : Bs) (c : UInt8) (hs : s.length ≤ 1048576) : bP Tryd.prog 50 [.one (.str s), .one (.str [c]), .one (.int .i64 0), .one (.int .i64 (-1))] (.one (.list .str (spB c s))) := by
 have hcl := rt c s; have hsl := kH c s
 refine aT Tryd.func50 rfl (by kernel_rfl) (Nat.le_of_ble_eq_true rfl) rfl fun C hP hN hB => ?_
 replace hN : C.N = 66 := hN
 simp only [aV, M]
 refine ad fun _ k1 => ?_
 refine ag hP hN rfl ?_
 (refine ab rfl fun _ k0 => ?_; simp only [zO, zT, acs, reduceCtorEq, O, M, V, aa, Z, Y]; (repeat refine an ?_); (try refine .inl ?_); apply k0; clear k0; simp only [zP, M])
 refine af ?_
 apply k1; clear k1; refine kp [0, 1, 2, 3, 8] ?_
 refine ad fun _ k2 => ?_
 refine ad fun _ k3 => ?_
 refine ag hP hN rfl ?_
 iterate 2 (refine ab rfl fun _ k0 => ?_; simp only [zO, zT, acs, reduceCtorEq, O, M, V, aa, Z, Y]; (repeat refine an ?_); (try refine .inl ?_); apply k0; clear k0; simp only [zP, M])
 refine af ?_
 apply k3; clear k3; refine kp [0, 1, 2, 3, 8, 13] ?_
 refine cd (fun hc4 => ?_) (fun hc4 => ?_)
 · exfalso; (try simp only [zB, reduceCtorEq] at hc4); all_goals (first | (cases hc4; done) | omega | (simp at hc4; done) | (simp_all; done))
 (try simp only [zB, reduceCtorEq] at hc4)
 refine ax ?_
 apply k2; clear k2; refine kp [0, 1, 2, 3, 8, 13] ?_
 refine ad fun _ k5 => ?_
 refine ad fun _ k6 => ?_
 refine ag hP hN rfl ?_
 iterate 2 (refine ab rfl fun _ k0 => ?_; simp only [zO, zT, acs, reduceCtorEq, O, M, V, aa, Z, Y]; (repeat refine an ?_); (try refine .inl ?_); apply k0; clear k0; simp only [zP, M])
 refine af ?_
 apply k6; clear k6; refine kp [0, 1, 2, 3, 8, 13, 15] ?_
 refine cd (fun hc7 => ?_) (fun hc7 => ?_)
 · exfalso; (try simp only [zB, reduceCtorEq] at hc7); all_goals (first | (cases hc7; done) | omega | (simp at hc7; done) | (simp_all; done))
 (try simp only [zB, reduceCtorEq] at hc7)
 refine ax ?_
 apply k5; clear k5; refine kp [0, 1, 2, 3, 8, 13, 15] ?_
 refine ad fun _ k8 => ?_
 refine ad fun _ k9 => ?_
 refine ag hP hN rfl ?_
 iterate 2 (refine ab rfl fun _ k0 => ?_; simp only [zO, zT, acs, reduceCtorEq, O, M, V, aa, Z, Y]; (repeat refine an ?_); (try refine .inl ?_); apply k0; clear k0; simp only [zP, M])
 refine af ?_
 apply k9; clear k9; refine kp [0, 1, 2, 3, 8, 13, 15, 20] ?_
 refine cd (fun hc10 => ?_) (fun hc10 => ?_)
 ·(try simp only [zB, reduceCtorEq] at hc10)
  refine ag hP hN rfl ?_
  iterate 2 (refine ab rfl fun _ k0 => ?_; simp only [zO, zT, acs, reduceCtorEq, O, M, V, aa, Z, Y]; (repeat refine an ?_); (try refine .inl ?_); apply k0; clear k0; simp only [zP, M])
  refine ab rfl fun _ k0 => ?_
  refine aw (h := am (t8 s c)) rfl rfl (by first | exact rfl | (simp only [ev, zP, O, M]; exact rfl)) (by simp only [zV, acs, reduceCtorEq, O, M, V, aa, Z, Y]) ?_
  apply k0; clear k0; simp only [zP, M]
  iterate 2 (refine ab rfl fun _ k0 => ?_; simp only [zO, zT, acs, reduceCtorEq, O, M, V, aa, Z, Y]; (repeat refine an ?_); (try refine .inl ?_); apply k0; clear k0; simp only [zP, M])
  refine af ?_
  apply k8; clear k8; refine kp [0, 1, 2, 3, 8, 13, 15, 20] ?_
  refine ad fun _ k11 => ?_
  rw [show ((Lib.countByte s c : Nat) : Int) + 1 = (spB c s).length by rw [hsl]; omega]
  refine ag hP hN rfl ?_
  iterate 6 (refine ab rfl fun _ k0 => ?_; simp only [zO, zT, acs, reduceCtorEq, O, M, V, aa, Z, Y]; (repeat refine an ?_); (try refine .inl ?_); apply k0; clear k0; simp only [zP, M])
  refine af ?_
  apply k11; clear k11; refine kp [0, 1, 2, 3, 8, 13, 15, 20] ?_
  refine ad fun _ k12 => ?_
  rw [show min ((spB c s).length : Int) ((s.length : Int) + 1) = (spB c s).length by rw [hsl]; omega]
  refine ag hP hN rfl ?_
  (refine ab rfl fun _ k0 => ?_; simp only [zO, zT, acs, reduceCtorEq, O, M, V, aa, Z, Y]; (repeat refine an ?_); (try refine .inl ?_); apply k0; clear k0; simp only [zP, M])
  (refine ab rfl fun _ k0 => ?_; simp only [zE, op1, ev, lkp, di, bz, eo, aZ, Ty.size, Ty.dflt, reduceCtorEq, O, M, V, aa, Z, Y, Tryd.el22, Tryd.td22, Tryd.td3]; (repeat refine an ?_); (try refine .inl ?_); apply k0; clear k0; simp only [zP, M])
  (refine ab rfl fun _ k0 => ?_; simp only [zO, zT, acs, reduceCtorEq, O, M, V, aa, Z, Y]; (repeat refine an ?_); (try refine .inl ?_); apply k0; clear k0; simp only [zP, M])
  refine af ?_
  apply k12; clear k12; refine kp [0, 1, 2, 3, 8, 9, 13, 15, 20] ?_
  refine ad fun _ k13 => ?_
  refine ag hP hN rfl ?_
  iterate 3 (refine ab rfl fun _ k0 => ?_; simp only [zO, zT, acs, reduceCtorEq, O, M, V, aa, Z, Y]; (repeat refine an ?_); (try refine .inl ?_); apply k0; clear k0; simp only [zP, M])
  refine af ?_
  apply k13; clear k13; refine kp [0, 1, 2, 3, 8, 9, 13, 15, 20] ?_
  refine ad fun _ k14 => ?_
  refine ag hP hN rfl ?_
  (refine ab rfl fun _ k0 => ?_; simp only [zO, zT, acs, reduceCtorEq, O, M, V, aa, Z, Y]; (repeat refine an ?_); (try refine .inl ?_); apply k0; clear k0; simp only [zP, M])
  refine af ?_
  apply k14; clear k14; refine kp [0, 1, 2, 3, 8, 9, 10, 13, 15, 20] ?_
  refine ad fun _ k15 => ?_
  refine aG ?_
  refine bD (fun n16 s16 => ∃ (k : Nat) (v : Nat) (r : Bs), (k + 1 ≤ (spB c s).length) ∧ (spB c r = (spB c s).drop k) ∧ (r.length ≤ s.length) ∧ n16 = (spB c s).length - k ∧ s16 = { env := [(0, .one (.str r)), (1, .one (.str [c])), (2, .one (.int .i64 0)), (3, .one (.int .i64 (((spB c s).length : Int) - 1))), (8, .one .nils), (9, .one (.row 0 v)), (10, .one (.int .i64 (k : Int)))], L := [.row .str 9 v (pcs (spB c s) k)] }) ?_ ?_
  ·exact ⟨_, _, aL [0, 1, 2, 3, 8, 9, 10], 0, 0, s, by omega, by rw [List.drop_zero], Nat.le_refl _, rfl, by rw [show pcs (spB c s) 0 = List.replicate (spB c s).length [] by unfold pcs; rw [List.take_zero, Nat.sub_zero, ar]]; rfl⟩
  rintro n16 s16 ⟨k, v, r, hk, hr, hrl, rfl, rfl⟩
  refine ad fun _ k17 => ?_
  refine ad fun _ k18 => ?_
  refine ag hP hN rfl ?_
  iterate 3 (refine ab rfl fun _ k0 => ?_; simp only [zO, zT, acs, reduceCtorEq, O, M, V, aa, Z, Y]; (repeat refine an ?_); (try refine .inl ?_); apply k0; clear k0; simp only [zP, M])
  refine af ?_
  apply k18; clear k18; refine kp [0, 1, 2, 3, 8, 9, 10, 36] ?_
  refine cd (fun hc19 => ?_) (fun hc19 => ?_)
  ·(try simp only [zB, reduceCtorEq] at hc19)
   refine ax ?_
   apply k17; clear k17; refine kp [0, 1, 2, 3, 8, 9, 10, 36] ?_
   refine aG ?_
   refine ad fun _ k20 => ?_
   obtain ⟨h1, h2, h3, h4⟩ := pC (P := spB c s) hr (by omega)
   have hpl := kq (P := spB c s) (k := k) (by omega)
   refine ag hP hN rfl ?_
   iterate 2 (refine ab rfl fun _ k0 => ?_; simp only [zO, zT, acs, reduceCtorEq, O, M, V, aa, Z, Y]; (repeat refine an ?_); (try refine .inl ?_); apply k0; clear k0; simp only [zP, M])
   refine ab rfl fun _ k0 => ?_
   refine aw (h := am (tO r c)) rfl rfl (by first | exact rfl | (simp only [ev, zP, O, M]; exact rfl)) (by simp only [zV, acs, reduceCtorEq, O, M, V, aa, Z, Y]) ?_
   apply k0; clear k0; simp only [zP, M]
   (refine ab rfl fun _ k0 => ?_; simp only [zO, zT, acs, reduceCtorEq, O, M, V, aa, Z, Y]; (repeat refine an ?_); (try refine .inl ?_); apply k0; clear k0; simp only [zP, M])
   refine af ?_
   apply k20; clear k20; refine kp [0, 1, 2, 3, 8, 9, 10, 11, 36] ?_
   refine ad fun _ k21 => ?_
   refine ad fun _ k22 => ?_
   refine ag hP hN rfl ?_
   iterate 2 (refine ab rfl fun _ k0 => ?_; simp only [zO, zT, acs, reduceCtorEq, O, M, V, aa, Z, Y]; (repeat refine an ?_); (try refine .inl ?_); apply k0; clear k0; simp only [zP, M])
   refine af ?_
   apply k22; clear k22; refine kp [0, 1, 2, 3, 8, 9, 10, 11, 36, 41] ?_
   refine cd (fun hc23 => ?_) (fun hc23 => ?_)
   · exfalso; (try simp only [zB, reduceCtorEq] at hc23); all_goals (first | (cases hc23; done) | omega | (simp at hc23; done) | (simp_all; done))
   (try simp only [zB, reduceCtorEq] at hc23)
   refine ax ?_
   apply k21; clear k21; refine kp [0, 1, 2, 3, 8, 9, 10, 11, 36, 41] ?_
   refine ad fun _ k24 => ?_
   refine ag hP hN rfl ?_
   iterate 6 (refine ab rfl fun _ k0 => ?_; simp only [zO, zT, acs, reduceCtorEq, O, M, V, aa, Z, Y, Int.add_zero, List.drop_zero, hpl, aE]; (repeat refine an ?_); (try refine .inl ?_); apply k0; clear k0; simp only [zP, M])
   (refine ab rfl fun _ k0 => ?_; simp only [zE, op1, ev, lkp, di, bz, fI, bE, dk, eE, cZ, dV, cz, bnd, Ty.size, db, zG, Ty.dflt, Nat.mul_one, ne_eq, not_false_eq_true, Int.natCast_one, Int.mul_one, dX, br, be, aZ, acs, reduceCtorEq, O, M, V, aa, Z, Y, Tryd.el22, Tryd.td22, Tryd.td3, Tryd.td9, Int.add_zero, List.drop_zero, hpl, aE]; (repeat refine an ?_); (try refine .inl ?_); apply k0; clear k0; simp only [zP, M])
   iterate 2 (refine ab rfl fun _ k0 => ?_; simp only [zO, zT, acs, reduceCtorEq, O, M, V, aa, Z, Y, Int.add_zero, List.drop_zero, hpl, aE]; (repeat refine an ?_); (try refine .inl ?_); apply k0; clear k0; simp only [zP, M])
   refine af ?_
   apply k24; clear k24; refine kp [0, 1, 2, 3, 8, 9, 10, 11, 36, 41] ?_
   refine ad fun _ k25 => ?_
   refine ag hP hN rfl ?_
   iterate 5 (refine ab rfl fun _ k0 => ?_; simp only [zO, zT, acs, reduceCtorEq, O, M, V, aa, Z, Y, aF]; (repeat refine an ?_); (try refine .inl ?_); apply k0; clear k0; simp only [zP, M])
   (refine ab rfl fun _ k0 => ?_; simp only [zE, op1, ev, lkp, di, bz, cX, jC, jk, ci, cP, fP, Nat.div_one, dL, cS, Ty.size, aZ, dite_true, fI, bE, dk, eE, cZ, dV, cz, bnd, reduceCtorEq, O, M, V, aa, Z, Y, Tryd.td3, Tryd.td9, aF]; (repeat refine an ?_); (try refine .inl ?_); apply k0; clear k0; simp only [zP, M])
   (refine ab rfl fun _ k0 => ?_; simp only [zO, zT, acs, reduceCtorEq, O, M, V, aa, Z, Y, aF]; (repeat refine an ?_); (try refine .inl ?_); apply k0; clear k0; simp only [zP, M])
   refine af ?_
   apply k25; clear k25; refine kp [0, 1, 2, 3, 8, 9, 10, 11, 36, 41] ?_
   refine ag hP hN rfl ?_
   iterate 3 (refine ab rfl fun _ k0 => ?_; simp only [zO, zT, acs, reduceCtorEq, O, M, V, aa, Z, Y]; (repeat refine an ?_); (try refine .inl ?_); apply k0; clear k0; simp only [zP, M])
   refine af ?_
   refine ⟨_, _, ?_, aL [0, 1, 2, 3, 8, 9, 10], k + 1, v, r.drop ((Lib.indexByte r c).toNat + 1), by omega, h3, by rw [List.length_drop]; omega, rfl, ?_⟩
   · omega
   · rw [← oO (P := spB c s) (k := k) (by omega) h2]
     rw [show (Lib.indexByte r c + 1).toNat = (Lib.indexByte r c).toNat + 1 by omega]
     rfl
  (try simp only [zB, reduceCtorEq] at hc19)
  refine bC ?_
  apply k15; clear k15; refine kp [0, 1, 2, 3, 8, 9, 10, 36] ?_
  refine ad fun _ k26 => ?_
  obtain ⟨g1, g2⟩ := rx (P := spB c s) hr (by omega)
  have hpl := kq (P := spB c s) (k := k) (by omega)
  have hpk := kq (P := spB c s) (k := k + 1) (by omega)
  have hps := oO (P := spB c s) (k := k) (by omega) g1
  refine ag hP hN rfl ?_
  iterate 5 (refine ab rfl fun _ k0 => ?_; simp only [zO, zT, acs, reduceCtorEq, O, M, V, aa, Z, Y, hpl, aE]; (repeat refine an ?_); (try refine .inl ?_); apply k0; clear k0; simp only [zP, M])
  refine af ?_
  apply k26; clear k26; refine kp [0, 1, 2, 3, 8, 9, 10, 36] ?_
  refine ad fun _ k27 => ?_
  refine ag hP hN rfl ?_
  iterate 3 (refine ab rfl fun _ k0 => ?_; simp only [zO, zT, acs, reduceCtorEq, O, M, V, aa, Z, Y, List.length_set, hpl, hps]; (repeat refine an ?_); (try refine .inl ?_); apply k0; clear k0; simp only [zP, M])
  (refine ab rfl fun _ k0 => ?_; simp only [zE, op1, ev, lkp, di, bz, fI, bE, dk, eE, cZ, dV, cz, bnd, Ty.size, reduceCtorEq, O, M, V, aa, Z, Y, Tryd.el22, Tryd.td22, Tryd.td3, List.length_set, hpl, hps]; (repeat refine an ?_); (try refine .inl ?_); apply k0; clear k0; simp only [zP, M])
  (refine ab rfl fun _ k0 => ?_; simp only [zO, zT, acs, reduceCtorEq, O, M, V, aa, Z, Y, List.length_set, hpl, hps]; (repeat refine an ?_); (try refine .inl ?_); apply k0; clear k0; simp only [zP, M])
  refine af ?_
  apply k27; clear k27; refine kp [0, 1, 2, 3, 8, 9, 10, 36] ?_
  refine au ?_
  refine ⟨nr, _, rfl, ?_⟩; simp only [zF, zP, O, M]
  refine VLE.of_eq ?_
  have hke : k + 1 = (spB c s).length := by omega
  rw [show ((k : Int) + 1).toNat = (spB c s).length by omega, hke, rL, aF]
 · exfalso; (try simp only [zB, reduceCtorEq] at hc10); all_goals (first | (cases hc10; done) | omega | (simp at hc10; done) | (simp_all; done))
theorem qC (s : Bs) (c : UInt8) (hs : s.length ≤ 1048576) : bP Tryd.prog 37 [.one (.str s), .one (.str [c])] (.one (.list .str (spB c s))) := by
 refine aT Tryd.func37 rfl (by kernel_rfl) (Nat.le_of_ble_eq_true rfl) rfl fun C hP hN hB => ?_
 replace hN : C.N = 8 := hN
 simp only [aV, M]
 refine ad fun _ k1 => ?_
 refine ag hP hN rfl ?_
 (refine ab rfl fun _ k0 => ?_; simp only [zO, zT, acs, reduceCtorEq, O, M, V, aa, Z, Y]; (repeat refine an ?_); (try refine .inl ?_); apply k0; clear k0; simp only [zP, M])
 refine af ?_
 apply k1; clear k1; refine kp [0, 1, 4] ?_
 refine ad fun _ k2 => ?_
 refine ag hP hN rfl ?_
 iterate 2 (refine ab rfl fun _ k0 => ?_; simp only [zO, zT, acs, reduceCtorEq, O, M, V, aa, Z, Y]; (repeat refine an ?_); (try refine .inl ?_); apply k0; clear k0; simp only [zP, M])
 refine ab rfl fun _ k0 => ?_
 refine aw (h := am (qL s c hs)) rfl rfl (by first | exact rfl | (simp only [ev, zP, O, M]; exact rfl)) (by simp only [zV, acs, reduceCtorEq, O, M, V, aa, Z, Y]) ?_
 apply k0; clear k0; simp only [zP, M]
 (refine ab rfl fun _ k0 => ?_; simp only [zO, zT, acs, reduceCtorEq, O, M, V, aa, Z, Y]; (repeat refine an ?_); (try refine .inl ?_); apply k0; clear k0; simp only [zP, M])
 refine af ?_
 apply k2; clear k2; refine kp [0, 1, 4] ?_
 refine au ?_
 refine ⟨nr, _, rfl, ?_⟩; simp only [zF, zP, O, M]
 refine VLE.of_eq ?_
 rfl
end Go.Proofs.YtmfkpljjhiglpaaDoor
