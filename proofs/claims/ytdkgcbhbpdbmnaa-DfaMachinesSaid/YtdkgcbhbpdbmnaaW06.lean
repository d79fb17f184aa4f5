/- Contracts of functions of this seat, each out of a walk through its code, and plain facts on what they compute. Conditions: those that each theorem names. -/
import Derived.Test.YtdkgcbhbpdbmnaaW05
set_option linter.unusedSimpArgs false
set_option linter.unusedVariables false
namespace Go.Proofs.Ytdkgcbhbpdbmnaa
open Go Go.AV
open Nat renaming reduceEqDiff → E, reduceAdd → D, reduceLeDiff → J, reduceLT → S, reduceMul → M, reduceSub → O
open List renaming set_cons_zero → au, set_cons_succ → ar
end Go.Proofs.Ytdkgcbhbpdbmnaa
namespace Go.Proofs.Ytdkgcbhbpdbmnaa
open Go Go.AV
open Nat renaming reduceEqDiff → E, reduceAdd → D, reduceLeDiff → J, reduceLT → S, reduceMul → M, reduceSub → O
open List renaming set_cons_zero → au, set_cons_succ → ar
set_option maxRecDepth 100000 in
theorem kB (l : List PP) (q : PP) (hl : l.length ≤ 100000) : bG Try.prog 60 [.one (.list (.pair (.int .i64) (.pair (.int .i64) .unit)) (List.map dG l)), .agg [.int .i64 q.1, .int .i64 q.2]] (.one (.int .i64 (pos l q : Int))) := by
 refine aR Try.func60 rfl (by kernel_rfl) (Nat.le_of_ble_eq_true rfl) rfl fun C hP hN hB => ?_
 replace hN : C.N = 21 := hN
 simp only [Y, D]
 refine aa fun K1 hK1 => ?_
 refine af hP hN rfl ?_
 iterate 2 (refine ab rfl fun K0 V => ?_; simp only [zE, op1, ev, lkp, ah, ag, ca, am, reduceCtorEq, E, D, J, S, M, O, Try.fl93, Try.st93, Try.td3, Try.td93, List.length_map]; (repeat refine And.intro (by first | omega | assumption | exact rfl) ?_); refine V _ ?_; clear V K0; simp only [put, app, Z, ae, zE, zS, D])
 refine ai ?_
 refine hK1 _ ?_; clear hK1; refine ad [0, 1, 3, 4] ?_; simp only [U, lkp, zE, reduceCtorEq, E, Y, D]
 refine aa fun K2 hK2 => ?_
 refine af hP hN rfl ?_
 (refine ab rfl fun K0 V => ?_; simp only [zE, op1, ev, lkp, ah, ag, ev, reduceCtorEq, E, D, J, S, M, O, Try.td3, List.length_map]; refine V _ ?_; clear V K0; simp only [put, app, Z, ae, zE, zS, D])
 refine ai ?_
 refine hK2 _ ?_; clear hK2; refine ad [0, 1, 3, 4, 5] ?_; simp only [U, lkp, zE, reduceCtorEq, E, Y, D]
 refine aa fun K3 hK3 => ?_
 refine aN ?_
 refine bo (fun n4 s4 => ∃ (k : Nat), (k ≤ l.length) ∧ (∀ j, j < k → l.getD j d0 ≠ q) ∧ n4 = l.length + 1 - k ∧ s4 = { env := [(0, .one (.list (.pair (.int .i64) (.pair (.int .i64) .unit)) (List.map dG l))), (3, .one (.ptr 0 0 0 0)), (4, .one (.int .i64 0)), (5, .one (.int .i64 (k : Int)))], L := [.vars 93 [.int .i64 q.1, .int .i64 q.2]] }) ?_ ?_
 ·exact ⟨_, _, aJ [0, 3, 4, 5], 0, Nat.zero_le _, fun q hq => by omega, rfl, rfl⟩
 ·rintro n4 s4 ⟨k, hk, hq, rfl, rfl⟩
  refine aa fun K5 hK5 => ?_
  refine aa fun K6 hK6 => ?_
  have hgi : gt (.pair (.int .i64) (.pair (.int .i64) .unit)) (List.map dG l) (k : Int) = ((l.getD k d0).1, ((l.getD k d0).2, ())) := (pI l k).1
  refine bP hP hN Try.mixed rfl ?_
  iterate 4 (refine ab rfl fun K0 V => ?_; simp only [zE, op1, ev, lkp, ah, ag, aE, bj, ba, aU, aV, bg, Nat.div_one, aM, aX, Ty.size, aI, dite_true, aB, aD, aC, aq, az, aP, reduceCtorEq, E, D, J, S, M, O, Try.el89, Try.td3, Try.td4, Try.td89, List.length_map, hgi]; (repeat refine And.intro (by first | omega | assumption | exact rfl) ?_); (first | refine V _ ?_ | refine Or.inl (V _ ?_)); clear V K0; simp only [put, app, Z, ae, zE, zS, D])
  (refine ab rfl fun K0 V => ?_; simp only [zE, op1, ev, lkp, ah, ag, ev, reduceCtorEq, E, D, J, S, M, O, Try.td4, List.length_map, hgi]; refine V _ ?_; clear V K0; simp only [put, app, Z, ae, zE, zS, D])
  refine' aW (want := true) 6 rfl (m := 10) (by simp only [U, lkp, zE, reduceCtorEq, E, Y, D]; exact rfl) (by kernel_rfl) rfl rfl rfl rfl rfl (fun hg7 => ?a7) ?b7 ?c7
  case a7 =>
   have hq7 := hg7; (try simp only [zB, reduceCtorEq] at hg7); simp only [List.take_succ_cons, List.take_zero, List.cons_append, List.nil_append]
   (refine aF rfl fun K0 V => ?_; simp only [zE, op1, ev, lkp, ah, ag, ev, reduceCtorEq, E, D, J, S, M, O, Try.el89, Try.td89, List.length_map, hgi]; refine V _ ?_; clear V K0; simp only [put, app, Z, ae, zE, zS, D])
   (refine aF rfl fun K0 V => ?_; simp only [zE, op1, ev, lkp, ah, ag, ev, reduceCtorEq, E, D, J, S, M, O, Try.td3, List.length_map, hgi]; refine V _ ?_; clear V K0; simp only [put, app, Z, ae, zE, zS, D])
   (refine aF rfl fun K0 V => ?_; simp only [zE, op1, ev, lkp, ah, ag, aK, zG, Ty.dflt, Ty.size, Nat.mul_one, ne_eq, not_false_eq_true, Int.natCast_one, Int.mul_one, reduceCtorEq, E, D, J, S, M, O, Try.el89, Try.td89, List.length_map, hgi]; (repeat refine And.intro (by first | omega | assumption | exact rfl) ?_); refine V _ ?_; clear V K0; simp only [put, app, Z, ae, zE, zS, D])
   (refine aF rfl fun K0 V => ?_; simp only [zE, op1, ev, lkp, ah, ag, ay, Nat.mul_one, aw, ax, acs, Ty.dflt, zG, ak, reduceCtorEq, E, D, J, S, M, O, Try.fl93, Try.st93, Try.td93, List.length_map, hgi]; (repeat refine And.intro (by first | omega | assumption | exact rfl) ?_); refine V _ ?_; clear V K0; simp only [put, app, Z, ae, zE, zS, D])
   (refine aF rfl fun K0 V => ?_; simp only [zE, op1, ev, lkp, ah, ag, ay, Nat.mul_one, aw, ax, acs, Ty.dflt, zG, ak, reduceCtorEq, E, D, J, S, M, O, Try.fl93, Try.st93, Try.td93, List.length_map, hgi]; (repeat refine And.intro (by first | omega | assumption | exact rfl) ?_); refine V _ ?_; clear V K0; simp only [put, app, Z, ae, zE, zS, D])
   (refine aF rfl fun K0 V => ?_; simp only [zE, op1, ev, lkp, ah, ag, aB, aD, aC, aq, az, aP, reduceCtorEq, E, D, J, S, M, O, Try.fl93, Try.st93, Try.td4, Try.td93, List.length_map, hgi]; (repeat refine And.intro (by first | omega | assumption | exact rfl) ?_); refine V _ ?_; clear V K0; simp only [put, app, Z, ae, zE, zS, D])
   (refine ab rfl fun K0 V => ?_; simp only [zE, op1, ev, lkp, ah, ag, bt, reduceCtorEq, E, D, J, S, M, O, Try.td4, List.length_map, hgi]; refine V _ ?_; clear V K0; simp only [put, app, Z, ae, zE, zS, D])
   refine ai ?_
   refine ⟨by simp only [U, lkp, zE, reduceCtorEq, E, Y, D]; exact rfl, rfl, ?_, rfl⟩; (repeat refine aY rfl ?_); exact bz (by exact rfl) hq7
  case b7 => exact bv (by first | rfl | (simp [bU]; done) | decide)
  simp only [bh, bc]
  refine ai ?_
  refine ⟨by kernel_rfl, ?_⟩
  refine hK6 _ ?_; clear hK6; refine ad [0, 3, 4, 5, 17] ?_; simp only [U, lkp, zE, reduceCtorEq, E, Y, D]
  refine aA (by simp only [ev, U, lkp, zE, reduceCtorEq, E, Y, D]; exact rfl) (fun hc8 => ?_) (fun hc8 => ?_)
  ·(try simp only [zB, reduceCtorEq] at hc8)
   have hne : l.getD k d0 ≠ q := fun e => by
     have e1 := congrArg Prod.fst e; have e2 := congrArg Prod.snd e; have h9 := hc8; rw [e1, e2] at h9; simp at h9; done
   refine aG ?_
   refine hK5 _ ?_; clear hK5; refine ad [0, 3, 4, 5, 17] ?_; simp only [U, lkp, zE, reduceCtorEq, E, Y, D]
   refine aN ?_
   refine af hP hN rfl ?_
   iterate 3 (refine ab rfl fun K0 V => ?_; simp only [zE, op1, ev, lkp, ah, ag, aB, aD, aC, aq, az, aP, reduceCtorEq, E, D, J, S, M, O, Try.td3, List.length_map]; (repeat refine And.intro (by first | omega | assumption | exact rfl) ?_); refine V _ ?_; clear V K0; simp only [put, app, Z, ae, zE, zS, D])
   refine ai ?_
   refine ⟨_, _, ?_, aJ [0, 3, 4, 5], k + 1, by omega, fun j hj => ?_, rfl, rfl⟩
   · omega
   · by_cases e : j = k
     · rw [e]; exact hne
     · exact hq j (by omega)
  ·(try simp only [zB, reduceCtorEq] at hc8)
   obtain ⟨hpk, _, _⟩ := rP (l := l) (q := q) (k := k) hq (by omega) (fun hkl => Prod.ext (by have h9 := hc8; omega) (by have h9 := hc8; omega))
   refine bm ?_
   refine hK3 _ ?_; clear hK3; refine ad [0, 3, 4, 5, 17] ?_; simp only [U, lkp, zE, reduceCtorEq, E, Y, D]
   refine aa fun K9 hK9 => ?_
   refine af hP hN rfl ?_
   iterate 2 (refine ab rfl fun K0 V => ?_; simp only [zE, op1, ev, lkp, ah, ag, ev, reduceCtorEq, E, D, J, S, M, O, Try.td3, List.length_map]; refine V _ ?_; clear V K0; simp only [put, app, Z, ae, zE, zS, D])
   refine ai ?_
   refine hK9 _ ?_; clear hK9; refine ad [0, 3, 4, 5, 17] ?_; simp only [U, lkp, zE, reduceCtorEq, E, Y, D]
   refine aH ?_
   refine ⟨by first | exact .inl rfl | exact .inr rfl, _, rfl, ?_⟩; simp only [fzV, fz1, fzC, List.map_cons, List.map_nil, U, lkp, zE, reduceCtorEq, E, Y, D, List.length_map]
   refine VLE.of_eq ?_
   refine congrArg (fun n => AV.one (AC.int IntKind.i64 n)) ?_
   rw [← hpk]
end Go.Proofs.Ytdkgcbhbpdbmnaa
namespace Go.Proofs.Ytdkgcbhbpdbmnaa
open Go Go.AV
open Nat renaming reduceEqDiff → E, reduceAdd → D, reduceLeDiff → J, reduceLT → S, reduceMul → M, reduceSub → O
open List renaming set_cons_zero → au, set_cons_succ → ar
set_option maxRecDepth 100000 in
theorem rk (m : Mly) (s : Nat) (hi : m.inp ≤ 64) (hs : s < m.nx.length) (ho : m.ot.length = m.nx.length) : bG Try.prog 85 [m.av, .one (.int .i64 (s : Int))] (.one (.int .i64 (fI m s))) := by
 refine aR Try.func85 rfl (by kernel_rfl) (Nat.le_of_ble_eq_true rfl) rfl fun C hP hN hB => ?_
 replace hN : C.N = 77 := hN
 simp only [Y, D]
 refine aa fun K1 hK1 => ?_
 refine af hP hN rfl ?_
 iterate 2 (refine ab rfl fun K0 V => ?_; simp only [zE, op1, ev, lkp, ah, ag, ca, am, reduceCtorEq, E, D, J, S, M, O, Try.st58, Try.td3, Try.td58, Mly.av]; (repeat refine And.intro (by first | omega | assumption | exact rfl) ?_); refine V _ ?_; clear V K0; simp only [put, app, Z, ae, zE, zS, D])
 refine ai ?_
 refine hK1 _ ?_; clear hK1; refine ad [0, 1, 2, 4] ?_; simp only [U, lkp, zE, reduceCtorEq, E, Y, D]
 refine aa fun K2 hK2 => ?_
 refine aa fun K3 hK3 => ?_
 refine bP hP hN Try.mixed rfl ?_
 iterate 9 (refine ab rfl fun K0 V => ?_; simp only [zE, op1, ev, lkp, ah, ag, ao, ay, Nat.mul_one, aw, ax, acs, Ty.dflt, zG, ak, aK, Ty.size, ne_eq, not_false_eq_true, Int.natCast_one, Int.mul_one, aE, bj, ba, aU, aV, bg, Nat.div_one, aM, aX, aI, dite_true, aB, aD, aC, aq, az, aP, reduceCtorEq, E, D, J, S, M, O, Try.el22, Try.el26, Try.st58, Try.td2, Try.td22, Try.td26, Try.td3, Try.td4, Try.td58, Mly.av]; (repeat refine And.intro (by first | omega | assumption | exact rfl) ?_); (first | refine V _ ?_ | refine Or.inl (V _ ?_)); clear V K0; simp only [put, app, Z, ae, zE, zS, D])
 (refine ab rfl fun K0 V => ?_; simp only [zE, op1, ev, lkp, ah, ag, ev, reduceCtorEq, E, D, J, S, M, O, Try.td4, Mly.av]; refine V _ ?_; clear V K0; simp only [put, app, Z, ae, zE, zS, D])
 refine' aW (want := false) 9 rfl (m := 15) (by simp only [U, lkp, zE, reduceCtorEq, E, Y, D]; exact rfl) (by kernel_rfl) rfl rfl rfl rfl rfl (fun hg4 => ?a4) ?b4 ?c4
 case a4 =>
  have hq4 := hg4; (try simp only [zB, reduceCtorEq] at hg4); simp only [List.take_succ_cons, List.take_zero, List.cons_append, List.nil_append]
  (refine aF rfl fun K0 V => ?_; simp only [zE, op1, ev, lkp, ah, ag, ao, reduceCtorEq, E, D, J, S, M, O, Try.st58, Try.td3, Try.td58, Mly.av]; (repeat refine And.intro (by first | omega | assumption | exact rfl) ?_); refine V _ ?_; clear V K0; simp only [put, app, Z, ae, zE, zS, D])
  (refine aF rfl fun K0 V => ?_; simp only [zE, op1, ev, lkp, ah, ag, ay, Nat.mul_one, aw, ax, acs, Ty.dflt, zG, ak, reduceCtorEq, E, D, J, S, M, O, Try.el22, Try.td22, Mly.av]; (repeat refine And.intro (by first | omega | assumption | exact rfl) ?_); refine V _ ?_; clear V K0; simp only [put, app, Z, ae, zE, zS, D])
  (refine aF rfl fun K0 V => ?_; simp only [zE, op1, ev, lkp, ah, ag, ev, reduceCtorEq, E, D, J, S, M, O, Try.td3, Mly.av]; refine V _ ?_; clear V K0; simp only [put, app, Z, ae, zE, zS, D])
  (refine aF rfl fun K0 V => ?_; simp only [zE, op1, ev, lkp, ah, ag, aK, zG, Ty.dflt, Ty.size, Nat.mul_one, ne_eq, not_false_eq_true, Int.natCast_one, Int.mul_one, reduceCtorEq, E, D, J, S, M, O, Try.el22, Try.td22, Mly.av]; (repeat refine And.intro (by first | omega | assumption | exact rfl) ?_); refine V _ ?_; clear V K0; simp only [put, app, Z, ae, zE, zS, D])
  (refine aF rfl fun K0 V => ?_; simp only [zE, op1, ev, lkp, ah, ag, ay, Nat.mul_one, aw, ax, acs, Ty.dflt, zG, ak, reduceCtorEq, E, D, J, S, M, O, Try.el26, Try.td26, Mly.av]; (repeat refine And.intro (by first | omega | assumption | exact rfl) ?_); refine V _ ?_; clear V K0; simp only [put, app, Z, ae, zE, zS, D])
  (refine aF rfl fun K0 V => ?_; simp only [zE, op1, ev, lkp, ah, ag, aE, bj, ba, aU, aV, bg, Nat.div_one, aM, aX, Ty.size, aI, dite_true, reduceCtorEq, E, D, J, S, M, O, Try.el26, Try.td26, Try.td3, Mly.av]; (repeat refine And.intro (by first | omega | assumption | exact rfl) ?_); (first | refine V _ ?_ | refine Or.inl (V _ ?_)); clear V K0; simp only [put, app, Z, ae, zE, zS, D])
  (refine aF rfl fun K0 V => ?_; simp only [zE, op1, ev, lkp, ah, ag, ao, reduceCtorEq, E, D, J, S, M, O, Try.st58, Try.td58, Mly.av]; (repeat refine And.intro (by first | omega | assumption | exact rfl) ?_); refine V _ ?_; clear V K0; simp only [put, app, Z, ae, zE, zS, D])
  (refine aF rfl fun K0 V => ?_; simp only [zE, op1, ev, lkp, ah, ag, ay, Nat.mul_one, aw, ax, acs, Ty.dflt, zG, ak, reduceCtorEq, E, D, J, S, M, O, Try.td3, Mly.av]; (repeat refine And.intro (by first | omega | assumption | exact rfl) ?_); refine V _ ?_; clear V K0; simp only [put, app, Z, ae, zE, zS, D])
  (refine aF rfl fun K0 V => ?_; simp only [zE, op1, ev, lkp, ah, ag, aB, aD, aC, aq, az, aP, reduceCtorEq, E, D, J, S, M, O, Try.td3, Try.td4, Mly.av]; (repeat refine And.intro (by first | omega | assumption | exact rfl) ?_); refine V _ ?_; clear V K0; simp only [put, app, Z, ae, zE, zS, D])
  (refine ab rfl fun K0 V => ?_; simp only [zE, op1, ev, lkp, ah, ag, bt, reduceCtorEq, E, D, J, S, M, O, Try.td4, Mly.av]; refine V _ ?_; clear V K0; simp only [put, app, Z, ae, zE, zS, D])
  refine ai ?_
  refine ⟨by simp only [U, lkp, zE, reduceCtorEq, E, Y, D]; exact rfl, rfl, ?_, rfl⟩; (repeat refine aY rfl ?_); exact bz (by exact rfl) hq4
 case b4 => exact bv (by first | rfl | (simp [bU]; done) | decide)
 simp only [bh, bc]
 refine ai ?_
 refine ⟨by kernel_rfl, ?_⟩
 refine hK3 _ ?_; clear hK3; refine ad [0, 1, 2, 4, 25] ?_; simp only [U, lkp, zE, reduceCtorEq, E, Y, D]
 refine aA (by simp only [ev, U, lkp, zE, reduceCtorEq, E, Y, D]; exact rfl) (fun hc5 => ?_) (fun hc5 => ?_)
 ·(try simp only [zB, reduceCtorEq] at hc5)
  refine aa fun K6 hK6 => ?_
  refine af hP hN rfl ?_
  (refine ab rfl fun K0 V => ?_; simp only [zE, op1, ev, lkp, ah, ag, ev, reduceCtorEq, E, D, J, S, M, O, Try.td3, Mly.av]; refine V _ ?_; clear V K0; simp only [put, app, Z, ae, zE, zS, D])
  refine ai ?_
  refine hK6 _ ?_; clear hK6; refine ad [0, 1, 2, 4, 25] ?_; simp only [U, lkp, zE, reduceCtorEq, E, Y, D]
  refine aH ?_
  refine ⟨by first | exact .inl rfl | exact .inr rfl, _, rfl, ?_⟩; simp only [fzV, fz1, fzC, List.map_cons, List.map_nil, U, lkp, zE, reduceCtorEq, E, Y, D, Mly.av]
  refine VLE.of_eq ?_
  refine congrArg (fun n => AV.one (AC.int IntKind.i64 n)) ?_
  symm
  first
  | exact cj hc5
  | exact ck hc5.1 hc5.2 (j := j) (by omega) (by unfold bS; omega)
  | exact ip hc5.1 hc5.2 fun a ha => hcells a (by omega)
 ·(try simp only [zB, reduceCtorEq] at hc5)
  refine aG ?_
  refine hK2 _ ?_; clear hK2; refine ad [0, 1, 2, 4, 25] ?_; simp only [U, lkp, zE, reduceCtorEq, E, Y, D]
  refine aa fun K7 hK7 => ?_
  refine aa fun K8 hK8 => ?_
  refine af hP hN rfl ?_
  (refine ab rfl fun K0 V => ?_; simp only [zE, op1, ev, lkp, ah, ag, ev, reduceCtorEq, E, D, J, S, M, O, Try.td3, Mly.av]; refine V _ ?_; clear V K0; simp only [put, app, Z, ae, zE, zS, D])
  refine ai ?_
  refine hK8 _ ?_; clear hK8; refine ad [0, 1, 2, 4, 5, 25] ?_; simp only [U, lkp, zE, reduceCtorEq, E, Y, D]
  refine aN ?_
  refine bo (fun n9 s9 => ∃ (j : Nat), (∀ a, a < j → ¬ bS m s a) ∧ (j ≤ m.inp.toNat) ∧ n9 = m.inp.toNat - j ∧ s9 = { env := [(1, .one (.int .i64 (s : Int))), (2, .one (.ptr 0 0 0 0)), (5, .one (.int .i64 (j : Int)))], L := [.vars 58 [.int .i64 m.inp, .int .i64 m.st, .list (.list (.int .i64)) m.nx, .list (.list (.int .i64)) m.ot]] }) ?_ ?_
  ·exact ⟨_, _, aJ [1, 2, 5], 0, fun i hi => by omega, Nat.zero_le _, rfl, rfl⟩
  ·rintro n9 s9 ⟨j, hcells, hj, rfl, rfl⟩
   refine aa fun K10 hK10 => ?_
   refine aa fun K11 hK11 => ?_
   refine af hP hN rfl ?_
   iterate 4 (refine ab rfl fun K0 V => ?_; simp only [zE, op1, ev, lkp, ah, ag, ao, ay, Nat.mul_one, aw, ax, acs, Ty.dflt, zG, ak, aB, aD, aC, aq, az, aP, reduceCtorEq, E, D, J, S, M, O, Try.st58, Try.td3, Try.td4, Try.td58, Mly.av]; (repeat refine And.intro (by first | omega | assumption | exact rfl) ?_); refine V _ ?_; clear V K0; simp only [put, app, Z, ae, zE, zS, D])
   refine ai ?_
   refine hK11 _ ?_; clear hK11; refine ad [1, 2, 5, 29] ?_; simp only [U, lkp, zE, reduceCtorEq, E, Y, D]
   refine aA (by simp only [ev, U, lkp, zE, reduceCtorEq, E, Y, D]; exact rfl) (fun hc12 => ?_) (fun hc12 => ?_)
   ·(try simp only [zB, reduceCtorEq] at hc12)
    refine aG ?_
    refine hK10 _ ?_; clear hK10; refine ad [1, 2, 5, 29] ?_; simp only [U, lkp, zE, reduceCtorEq, E, Y, D]
    refine aa fun K13 hK13 => ?_
    refine aN ?_
    refine aa fun K14 hK14 => ?_
    refine bP hP hN Try.mixed rfl ?_
    iterate 9 (refine ab rfl fun K0 V => ?_; simp only [zE, op1, ev, lkp, ah, ag, ao, ay, Nat.mul_one, aw, ax, acs, Ty.dflt, zG, ak, aK, Ty.size, ne_eq, not_false_eq_true, Int.natCast_one, Int.mul_one, aB, aD, aC, aq, az, aP, reduceCtorEq, E, D, J, S, M, O, Try.el22, Try.el26, Try.st58, Try.td2, Try.td22, Try.td26, Try.td3, Try.td4, Try.td58, Mly.av]; (repeat refine And.intro (by first | omega | assumption | exact rfl) ?_); refine V _ ?_; clear V K0; simp only [put, app, Z, ae, zE, zS, D])
    (refine ab rfl fun K0 V => ?_; simp only [zE, op1, ev, lkp, ah, ag, ev, reduceCtorEq, E, D, J, S, M, O, Try.td4, Mly.av]; refine V _ ?_; clear V K0; simp only [put, app, Z, ae, zE, zS, D])
    refine' aW (want := false) 12 rfl (m := 41) (by simp only [U, lkp, zE, reduceCtorEq, E, Y, D]; exact rfl) (by kernel_rfl) rfl rfl rfl rfl rfl (fun hg15 => ?a15) ?b15 ?c15
    case a15 =>
     have hq15 := hg15; (try simp only [zB, reduceCtorEq] at hg15); simp only [List.take_succ_cons, List.take_zero, List.cons_append, List.nil_append]
     (refine aF rfl fun K0 V => ?_; simp only [zE, op1, ev, lkp, ah, ag, ao, reduceCtorEq, E, D, J, S, M, O, Try.st58, Try.td2, Try.td58, Mly.av]; (repeat refine And.intro (by first | omega | assumption | exact rfl) ?_); refine V _ ?_; clear V K0; simp only [put, app, Z, ae, zE, zS, D])
     (refine aF rfl fun K0 V => ?_; simp only [zE, op1, ev, lkp, ah, ag, ay, Nat.mul_one, aw, ax, acs, Ty.dflt, zG, ak, reduceCtorEq, E, D, J, S, M, O, Try.el22, Try.td22, Mly.av]; (repeat refine And.intro (by first | omega | assumption | exact rfl) ?_); refine V _ ?_; clear V K0; simp only [put, app, Z, ae, zE, zS, D])
     (refine aF rfl fun K0 V => ?_; simp only [zE, op1, ev, lkp, ah, ag, ev, reduceCtorEq, E, D, J, S, M, O, Try.td3, Mly.av]; refine V _ ?_; clear V K0; simp only [put, app, Z, ae, zE, zS, D])
     (refine aF rfl fun K0 V => ?_; simp only [zE, op1, ev, lkp, ah, ag, aK, zG, Ty.dflt, Ty.size, Nat.mul_one, ne_eq, not_false_eq_true, Int.natCast_one, Int.mul_one, reduceCtorEq, E, D, J, S, M, O, Try.el22, Try.td22, Mly.av]; (repeat refine And.intro (by first | omega | assumption | exact rfl) ?_); refine V _ ?_; clear V K0; simp only [put, app, Z, ae, zE, zS, D])
     (refine aF rfl fun K0 V => ?_; simp only [zE, op1, ev, lkp, ah, ag, ay, Nat.mul_one, aw, ax, acs, Ty.dflt, zG, ak, reduceCtorEq, E, D, J, S, M, O, Try.el26, Try.td26, Mly.av]; (repeat refine And.intro (by first | omega | assumption | exact rfl) ?_); refine V _ ?_; clear V K0; simp only [put, app, Z, ae, zE, zS, D])
     (refine aF rfl fun K0 V => ?_; simp only [zE, op1, ev, lkp, ah, ag, ev, reduceCtorEq, E, D, J, S, M, O, Try.td3, Mly.av]; refine V _ ?_; clear V K0; simp only [put, app, Z, ae, zE, zS, D])
     (refine aF rfl fun K0 V => ?_; simp only [zE, op1, ev, lkp, ah, ag, aK, zG, Ty.dflt, Ty.size, Nat.mul_one, ne_eq, not_false_eq_true, Int.natCast_one, Int.mul_one, reduceCtorEq, E, D, J, S, M, O, Try.el26, Try.td26, Mly.av]; (repeat refine And.intro (by first | omega | assumption | exact rfl) ?_); refine V _ ?_; clear V K0; simp only [put, app, Z, ae, zE, zS, D])
     (refine aF rfl fun K0 V => ?_; simp only [zE, op1, ev, lkp, ah, ag, ay, Nat.mul_one, aw, ax, acs, Ty.dflt, zG, ak, reduceCtorEq, E, D, J, S, M, O, Try.td3, Mly.av]; (repeat refine And.intro (by first | omega | assumption | exact rfl) ?_); refine V _ ?_; clear V K0; simp only [put, app, Z, ae, zE, zS, D])
     (refine aF rfl fun K0 V => ?_; simp only [zE, op1, ev, lkp, ah, ag, ao, reduceCtorEq, E, D, J, S, M, O, Try.st58, Try.td2, Try.td58, Mly.av]; (repeat refine And.intro (by first | omega | assumption | exact rfl) ?_); refine V _ ?_; clear V K0; simp only [put, app, Z, ae, zE, zS, D])
     (refine aF rfl fun K0 V => ?_; simp only [zE, op1, ev, lkp, ah, ag, ay, Nat.mul_one, aw, ax, acs, Ty.dflt, zG, ak, reduceCtorEq, E, D, J, S, M, O, Try.el22, Try.td22, Mly.av]; (repeat refine And.intro (by first | omega | assumption | exact rfl) ?_); refine V _ ?_; clear V K0; simp only [put, app, Z, ae, zE, zS, D])
     (refine aF rfl fun K0 V => ?_; simp only [zE, op1, ev, lkp, ah, ag, aE, bj, ba, aU, aV, bg, Nat.div_one, aM, aX, Ty.size, aI, dite_true, reduceCtorEq, E, D, J, S, M, O, Try.el22, Try.td22, Try.td3, Mly.av]; (repeat refine And.intro (by first | omega | assumption | exact rfl) ?_); (first | refine V _ ?_ | refine Or.inl (V _ ?_)); clear V K0; simp only [put, app, Z, ae, zE, zS, D])
     (refine aF rfl fun K0 V => ?_; simp only [zE, op1, ev, lkp, ah, ag, aB, aD, aC, aq, az, aP, reduceCtorEq, E, D, J, S, M, O, Try.td3, Try.td4, Mly.av]; (repeat refine And.intro (by first | omega | assumption | exact rfl) ?_); refine V _ ?_; clear V K0; simp only [put, app, Z, ae, zE, zS, D])
     (refine ab rfl fun K0 V => ?_; simp only [zE, op1, ev, lkp, ah, ag, bt, reduceCtorEq, E, D, J, S, M, O, Try.td4, Mly.av]; refine V _ ?_; clear V K0; simp only [put, app, Z, ae, zE, zS, D])
     refine ai ?_
     refine ⟨by simp only [U, lkp, zE, reduceCtorEq, E, Y, D]; exact rfl, rfl, ?_, rfl⟩; (repeat refine aY rfl ?_); exact bz (by exact rfl) hq15
    case b15 => exact bv (by first | rfl | (simp [bU]; done) | decide)
    simp only [bh, bc]
    (refine ab rfl fun K0 V => ?_; simp only [zE, op1, ev, lkp, ah, ag, ev, reduceCtorEq, E, D, J, S, M, O, Try.td4, Mly.av]; refine V _ ?_; clear V K0; simp only [put, app, Z, ae, zE, zS, D])
    refine' aW (want := false) 9 rfl (m := 55) (by simp only [U, lkp, zE, reduceCtorEq, E, Y, D]; exact rfl) (by kernel_rfl) rfl rfl rfl rfl rfl (fun hg16 => ?a16) ?b16 ?c16
    case a16 =>
     have hq16 := hg16; (try simp only [zB, reduceCtorEq] at hg16); simp only [List.take_succ_cons, List.take_zero, List.cons_append, List.nil_append]
     (refine aF rfl fun K0 V => ?_; simp only [zE, op1, ev, lkp, ah, ag, ao, reduceCtorEq, E, D, J, S, M, O, Try.st58, Try.td3, Try.td58, Mly.av]; (repeat refine And.intro (by first | omega | assumption | exact rfl) ?_); refine V _ ?_; clear V K0; simp only [put, app, Z, ae, zE, zS, D])
     (refine aF rfl fun K0 V => ?_; simp only [zE, op1, ev, lkp, ah, ag, ay, Nat.mul_one, aw, ax, acs, Ty.dflt, zG, ak, reduceCtorEq, E, D, J, S, M, O, Try.el22, Try.td22, Mly.av]; (repeat refine And.intro (by first | omega | assumption | exact rfl) ?_); refine V _ ?_; clear V K0; simp only [put, app, Z, ae, zE, zS, D])
     (refine aF rfl fun K0 V => ?_; simp only [zE, op1, ev, lkp, ah, ag, ev, reduceCtorEq, E, D, J, S, M, O, Try.td3, Mly.av]; refine V _ ?_; clear V K0; simp only [put, app, Z, ae, zE, zS, D])
     (refine aF rfl fun K0 V => ?_; simp only [zE, op1, ev, lkp, ah, ag, aK, zG, Ty.dflt, Ty.size, Nat.mul_one, ne_eq, not_false_eq_true, Int.natCast_one, Int.mul_one, reduceCtorEq, E, D, J, S, M, O, Try.el22, Try.td22, Mly.av]; (repeat refine And.intro (by first | omega | assumption | exact rfl) ?_); refine V _ ?_; clear V K0; simp only [put, app, Z, ae, zE, zS, D])
     (refine aF rfl fun K0 V => ?_; simp only [zE, op1, ev, lkp, ah, ag, ay, Nat.mul_one, aw, ax, acs, Ty.dflt, zG, ak, reduceCtorEq, E, D, J, S, M, O, Try.el26, Try.td26, Mly.av]; (repeat refine And.intro (by first | omega | assumption | exact rfl) ?_); refine V _ ?_; clear V K0; simp only [put, app, Z, ae, zE, zS, D])
     (refine aF rfl fun K0 V => ?_; simp only [zE, op1, ev, lkp, ah, ag, ev, reduceCtorEq, E, D, J, S, M, O, Try.td3, Mly.av]; refine V _ ?_; clear V K0; simp only [put, app, Z, ae, zE, zS, D])
     (refine aF rfl fun K0 V => ?_; simp only [zE, op1, ev, lkp, ah, ag, aK, zG, Ty.dflt, Ty.size, Nat.mul_one, ne_eq, not_false_eq_true, Int.natCast_one, Int.mul_one, reduceCtorEq, E, D, J, S, M, O, Try.el26, Try.td26, Mly.av]; (repeat refine And.intro (by first | omega | assumption | exact rfl) ?_); refine V _ ?_; clear V K0; simp only [put, app, Z, ae, zE, zS, D])
     (refine aF rfl fun K0 V => ?_; simp only [zE, op1, ev, lkp, ah, ag, ay, Nat.mul_one, aw, ax, acs, Ty.dflt, zG, ak, reduceCtorEq, E, D, J, S, M, O, Try.td3, Mly.av]; (repeat refine And.intro (by first | omega | assumption | exact rfl) ?_); refine V _ ?_; clear V K0; simp only [put, app, Z, ae, zE, zS, D])
     (refine aF rfl fun K0 V => ?_; simp only [zE, op1, ev, lkp, ah, ag, aB, aD, aC, aq, az, aP, reduceCtorEq, E, D, J, S, M, O, Try.td3, Try.td4, Mly.av]; (repeat refine And.intro (by first | omega | assumption | exact rfl) ?_); refine V _ ?_; clear V K0; simp only [put, app, Z, ae, zE, zS, D])
     (refine ab rfl fun K0 V => ?_; simp only [zE, op1, ev, lkp, ah, ag, bt, reduceCtorEq, E, D, J, S, M, O, Try.td4, Mly.av]; refine V _ ?_; clear V K0; simp only [put, app, Z, ae, zE, zS, D])
     refine ai ?_
     refine ⟨by simp only [U, lkp, zE, reduceCtorEq, E, Y, D]; exact rfl, rfl, ?_, rfl⟩; (repeat refine aY rfl ?_); exact bz (by exact rfl) hq16
    case b16 => exact bv (by first | rfl | (simp [bU]; done) | decide)
    simp only [bh, bc]
    (refine ab rfl fun K0 V => ?_; simp only [zE, op1, ev, lkp, ah, ag, ev, reduceCtorEq, E, D, J, S, M, O, Try.td4, Mly.av]; refine V _ ?_; clear V K0; simp only [put, app, Z, ae, zE, zS, D])
    refine' aW (want := false) 9 rfl (m := 66) (by simp only [U, lkp, zE, reduceCtorEq, E, Y, D]; exact rfl) (by kernel_rfl) rfl rfl rfl rfl rfl (fun hg17 => ?a17) ?b17 ?c17
    case a17 =>
     have hq17 := hg17; (try simp only [zB, reduceCtorEq] at hg17); simp only [List.take_succ_cons, List.take_zero, List.cons_append, List.nil_append]
     (refine aF rfl fun K0 V => ?_; simp only [zE, op1, ev, lkp, ah, ag, ao, reduceCtorEq, E, D, J, S, M, O, Try.st58, Try.td3, Try.td58, Mly.av]; (repeat refine And.intro (by first | omega | assumption | exact rfl) ?_); refine V _ ?_; clear V K0; simp only [put, app, Z, ae, zE, zS, D])
     (refine aF rfl fun K0 V => ?_; simp only [zE, op1, ev, lkp, ah, ag, ay, Nat.mul_one, aw, ax, acs, Ty.dflt, zG, ak, reduceCtorEq, E, D, J, S, M, O, Try.el22, Try.td22, Mly.av]; (repeat refine And.intro (by first | omega | assumption | exact rfl) ?_); refine V _ ?_; clear V K0; simp only [put, app, Z, ae, zE, zS, D])
     (refine aF rfl fun K0 V => ?_; simp only [zE, op1, ev, lkp, ah, ag, ev, reduceCtorEq, E, D, J, S, M, O, Try.td3, Mly.av]; refine V _ ?_; clear V K0; simp only [put, app, Z, ae, zE, zS, D])
     (refine aF rfl fun K0 V => ?_; simp only [zE, op1, ev, lkp, ah, ag, aK, zG, Ty.dflt, Ty.size, Nat.mul_one, ne_eq, not_false_eq_true, Int.natCast_one, Int.mul_one, reduceCtorEq, E, D, J, S, M, O, Try.el22, Try.td22, Mly.av]; (repeat refine And.intro (by first | omega | assumption | exact rfl) ?_); refine V _ ?_; clear V K0; simp only [put, app, Z, ae, zE, zS, D])
     (refine aF rfl fun K0 V => ?_; simp only [zE, op1, ev, lkp, ah, ag, ay, Nat.mul_one, aw, ax, acs, Ty.dflt, zG, ak, reduceCtorEq, E, D, J, S, M, O, Try.el26, Try.td26, Mly.av]; (repeat refine And.intro (by first | omega | assumption | exact rfl) ?_); refine V _ ?_; clear V K0; simp only [put, app, Z, ae, zE, zS, D])
     (refine aF rfl fun K0 V => ?_; simp only [zE, op1, ev, lkp, ah, ag, ev, reduceCtorEq, E, D, J, S, M, O, Try.td3, Mly.av]; refine V _ ?_; clear V K0; simp only [put, app, Z, ae, zE, zS, D])
     (refine aF rfl fun K0 V => ?_; simp only [zE, op1, ev, lkp, ah, ag, aK, zG, Ty.dflt, Ty.size, Nat.mul_one, ne_eq, not_false_eq_true, Int.natCast_one, Int.mul_one, reduceCtorEq, E, D, J, S, M, O, Try.el26, Try.td26, Mly.av]; (repeat refine And.intro (by first | omega | assumption | exact rfl) ?_); refine V _ ?_; clear V K0; simp only [put, app, Z, ae, zE, zS, D])
     (refine aF rfl fun K0 V => ?_; simp only [zE, op1, ev, lkp, ah, ag, ay, Nat.mul_one, aw, ax, acs, Ty.dflt, zG, ak, reduceCtorEq, E, D, J, S, M, O, Try.td3, Mly.av]; (repeat refine And.intro (by first | omega | assumption | exact rfl) ?_); refine V _ ?_; clear V K0; simp only [put, app, Z, ae, zE, zS, D])
     (refine aF rfl fun K0 V => ?_; simp only [zE, op1, ev, lkp, ah, ag, aB, aD, aC, aq, az, aP, reduceCtorEq, E, D, J, S, M, O, Try.td3, Try.td4, Mly.av]; (repeat refine And.intro (by first | omega | assumption | exact rfl) ?_); refine V _ ?_; clear V K0; simp only [put, app, Z, ae, zE, zS, D])
     (refine ab rfl fun K0 V => ?_; simp only [zE, op1, ev, lkp, ah, ag, bt, reduceCtorEq, E, D, J, S, M, O, Try.td4, Mly.av]; refine V _ ?_; clear V K0; simp only [put, app, Z, ae, zE, zS, D])
     refine ai ?_
     refine ⟨by simp only [U, lkp, zE, reduceCtorEq, E, Y, D]; exact rfl, rfl, ?_, rfl⟩; (repeat refine aY rfl ?_); exact bz (by exact rfl) hq17
    case b17 => exact bv (by first | rfl | (simp [bU]; done) | decide)
    simp only [bh, bc]
    refine ai ?_
    refine ⟨by kernel_rfl, ?_⟩
    refine hK14 _ ?_; clear hK14; refine ad [1, 2, 5, 29, 76] ?_; simp only [U, lkp, zE, reduceCtorEq, E, Y, D]
    refine aA (by simp only [ev, U, lkp, zE, reduceCtorEq, E, Y, D]; exact rfl) (fun hc18 => ?_) (fun hc18 => ?_)
    ·(try simp only [zB, reduceCtorEq] at hc18)
     refine aa fun K19 hK19 => ?_
     refine af hP hN rfl ?_
     (refine ab rfl fun K0 V => ?_; simp only [zE, op1, ev, lkp, ah, ag, ev, reduceCtorEq, E, D, J, S, M, O, Try.td3, Mly.av]; refine V _ ?_; clear V K0; simp only [put, app, Z, ae, zE, zS, D])
     refine ai ?_
     refine hK19 _ ?_; clear hK19; refine ad [1, 2, 4, 5, 29, 76] ?_; simp only [U, lkp, zE, reduceCtorEq, E, Y, D]
     refine aH ?_
     refine ⟨by first | exact .inl rfl | exact .inr rfl, _, rfl, ?_⟩; simp only [fzV, fz1, fzC, List.map_cons, List.map_nil, U, lkp, zE, reduceCtorEq, E, Y, D, Mly.av]
     refine VLE.of_eq ?_
     refine congrArg (fun n => AV.one (AC.int IntKind.i64 n)) ?_
     symm
     first
     | exact cj hc5
     | exact ck hc5.1 hc5.2 (j := j) (by omega) (by unfold bS; omega)
     | exact ip hc5.1 hc5.2 fun a ha => hcells a (by omega)
    ·(try simp only [zB, reduceCtorEq] at hc18)
     refine aG ?_
     refine hK13 _ ?_; clear hK13; refine ad [1, 2, 5, 29, 76] ?_; simp only [U, lkp, zE, reduceCtorEq, E, Y, D]
     refine af hP hN rfl ?_
     iterate 3 (refine ab rfl fun K0 V => ?_; simp only [zE, op1, ev, lkp, ah, ag, aB, aD, aC, aq, az, aP, reduceCtorEq, E, D, J, S, M, O, Try.td3, Mly.av]; (repeat refine And.intro (by first | omega | assumption | exact rfl) ?_); refine V _ ?_; clear V K0; simp only [put, app, Z, ae, zE, zS, D])
     refine ai ?_
     refine ⟨_, _, ?_, aJ [1, 2, 5], j + 1, fun a ha => ?_, ?_, rfl, rfl⟩
     · omega
     · by_cases e : a = j
       · rw [e]; unfold bS; omega
       · exact hcells a (by omega)
     · omega
   ·(try simp only [zB, reduceCtorEq] at hc12)
    refine bm ?_
    refine hK7 _ ?_; clear hK7; refine ad [1, 2, 5, 29] ?_; simp only [U, lkp, zE, reduceCtorEq, E, Y, D]
    refine aa fun K20 hK20 => ?_
    refine af hP hN rfl ?_
    (refine ab rfl fun K0 V => ?_; simp only [zE, op1, ev, lkp, ah, ag, ev, reduceCtorEq, E, D, J, S, M, O, Try.td3, Mly.av]; refine V _ ?_; clear V K0; simp only [put, app, Z, ae, zE, zS, D])
    refine ai ?_
    refine hK20 _ ?_; clear hK20; refine ad [1, 2, 4, 5, 29] ?_; simp only [U, lkp, zE, reduceCtorEq, E, Y, D]
    refine aH ?_
    refine ⟨by first | exact .inl rfl | exact .inr rfl, _, rfl, ?_⟩; simp only [fzV, fz1, fzC, List.map_cons, List.map_nil, U, lkp, zE, reduceCtorEq, E, Y, D, Mly.av]
    refine VLE.of_eq ?_
    refine congrArg (fun n => AV.one (AC.int IntKind.i64 n)) ?_
    symm
    first
    | exact cj hc5
    | exact ck hc5.1 hc5.2 (j := j) (by omega) (by unfold bS; omega)
    | exact ip hc5.1 hc5.2 fun a ha => hcells a (by omega)
end Go.Proofs.Ytdkgcbhbpdbmnaa
namespace Go.Proofs.Ytdkgcbhbpdbmnaa
open Go Go.AV
open Nat renaming reduceEqDiff → E, reduceAdd → D, reduceLeDiff → J, reduceLT → S, reduceMul → M, reduceSub → O
open List renaming set_cons_zero → au, set_cons_succ → ar
set_option maxRecDepth 100000 in
theorem kD (m : Mly) : bG Try.prog 73 [m.av] (.one (.int .i64 (c0 m))) := by
 refine aR Try.func73 rfl (by kernel_rfl) (Nat.le_of_ble_eq_true rfl) rfl fun C hP hN hB => ?_
 replace hN : C.N = 52 := hN
 simp only [Y, D]
 refine aa fun K1 hK1 => ?_
 refine af hP hN rfl ?_
 iterate 2 (refine ab rfl fun K0 V => ?_; simp only [zE, op1, ev, lkp, ah, ag, ca, am, reduceCtorEq, E, D, J, S, M, O, Try.st58, Try.td3, Try.td58, Mly.av]; (repeat refine And.intro (by first | omega | assumption | exact rfl) ?_); refine V _ ?_; clear V K0; simp only [put, app, Z, ae, zE, zS, D])
 refine ai ?_
 refine hK1 _ ?_; clear hK1; refine ad [0, 1, 2] ?_; simp only [U, lkp, zE, reduceCtorEq, E, Y, D]
 refine aa fun K2 hK2 => ?_
 refine aa fun K3 hK3 => ?_
 refine af hP hN rfl ?_
 iterate 3 (refine ab rfl fun K0 V => ?_; simp only [zE, op1, ev, lkp, ah, ag, ao, ay, Nat.mul_one, aw, ax, acs, Ty.dflt, zG, ak, aB, aD, aC, aq, az, aP, reduceCtorEq, E, D, J, S, M, O, Try.st58, Try.td3, Try.td4, Try.td58, Mly.av]; (repeat refine And.intro (by first | omega | assumption | exact rfl) ?_); refine V _ ?_; clear V K0; simp only [put, app, Z, ae, zE, zS, D])
 (refine ab rfl fun K0 V => ?_; simp only [zE, op1, ev, lkp, ah, ag, ev, reduceCtorEq, E, D, J, S, M, O, Try.td4, Mly.av]; refine V _ ?_; clear V K0; simp only [put, app, Z, ae, zE, zS, D])
 refine' aW (want := false) 3 rfl (m := 8) (by simp only [U, lkp, zE, reduceCtorEq, E, Y, D]; exact rfl) (by kernel_rfl) rfl rfl rfl rfl rfl (fun hg4 => ?a4) ?b4 ?c4
 case a4 =>
  have hq4 := hg4; (try simp only [zB, reduceCtorEq] at hg4); simp only [List.take_succ_cons, List.take_zero, List.cons_append, List.nil_append]
  (refine aF rfl fun K0 V => ?_; simp only [zE, op1, ev, lkp, ah, ag, ao, reduceCtorEq, E, D, J, S, M, O, Try.st58, Try.td58, Mly.av]; (repeat refine And.intro (by first | omega | assumption | exact rfl) ?_); refine V _ ?_; clear V K0; simp only [put, app, Z, ae, zE, zS, D])
  (refine aF rfl fun K0 V => ?_; simp only [zE, op1, ev, lkp, ah, ag, ay, Nat.mul_one, aw, ax, acs, Ty.dflt, zG, ak, reduceCtorEq, E, D, J, S, M, O, Try.td3, Mly.av]; (repeat refine And.intro (by first | omega | assumption | exact rfl) ?_); refine V _ ?_; clear V K0; simp only [put, app, Z, ae, zE, zS, D])
  (refine aF rfl fun K0 V => ?_; simp only [zE, op1, ev, lkp, ah, ag, aB, aD, aC, aq, az, aP, reduceCtorEq, E, D, J, S, M, O, Try.td3, Try.td4, Mly.av]; (repeat refine And.intro (by first | omega | assumption | exact rfl) ?_); refine V _ ?_; clear V K0; simp only [put, app, Z, ae, zE, zS, D])
  (refine ab rfl fun K0 V => ?_; simp only [zE, op1, ev, lkp, ah, ag, bt, reduceCtorEq, E, D, J, S, M, O, Try.td4, Mly.av]; refine V _ ?_; clear V K0; simp only [put, app, Z, ae, zE, zS, D])
  refine ai ?_
  refine ⟨by simp only [U, lkp, zE, reduceCtorEq, E, Y, D]; exact rfl, rfl, ?_, rfl⟩; (repeat refine aY rfl ?_); exact bz (by exact rfl) hq4
 case b4 => exact bv (by first | rfl | (simp [bU]; done) | decide)
 simp only [bh, bc]
 refine ai ?_
 refine hK3 _ ?_; clear hK3; refine ad [0, 1, 2, 12] ?_; simp only [U, lkp, zE, reduceCtorEq, E, Y, D]
 refine aA (by simp only [ev, U, lkp, zE, reduceCtorEq, E, Y, D]; exact rfl) (fun hc5 => ?_) (fun hc5 => ?_)
 ·(try simp only [zB, reduceCtorEq] at hc5)
  refine aa fun K6 hK6 => ?_
  refine af hP hN rfl ?_
  (refine ab rfl fun K0 V => ?_; simp only [zE, op1, ev, lkp, ah, ag, ev, reduceCtorEq, E, D, J, S, M, O, Try.td3, Mly.av]; refine V _ ?_; clear V K0; simp only [put, app, Z, ae, zE, zS, D])
  refine ai ?_
  refine hK6 _ ?_; clear hK6; refine ad [0, 1, 2, 12] ?_; simp only [U, lkp, zE, reduceCtorEq, E, Y, D]
  refine aH ?_
  refine ⟨by first | exact .inl rfl | exact .inr rfl, _, rfl, ?_⟩; simp only [fzV, fz1, fzC, List.map_cons, List.map_nil, U, lkp, zE, reduceCtorEq, E, Y, D, Mly.av]
  refine VLE.of_eq ?_
  refine congrArg (fun n => AV.one (AC.int IntKind.i64 n)) ?_
  symm
  unfold c0
  first
  | (rw [if_pos (by omega)]; done)
  | (rw [if_neg (by omega), if_pos (by omega)]; done)
  | (rw [if_neg (by omega), if_neg (by omega), if_pos (by omega)]; done)
  | (rw [if_neg (by omega), if_neg (by omega), if_neg (by omega), if_pos (by omega)]; done)
  | (rw [if_neg (by omega), if_neg (by omega), if_neg (by omega), if_neg (by omega), if_pos (by omega)]; done)
  | (rw [if_neg (by omega), if_neg (by omega), if_neg (by omega), if_neg (by omega), if_neg (by omega)]
     first
     | exact aS hrows (by omega) (by assumption)
     | exact bu fun i hi => hrows i (by omega))
 ·(try simp only [zB, reduceCtorEq] at hc5)
  refine aG ?_
  refine hK2 _ ?_; clear hK2; refine ad [0, 1, 2, 12] ?_; simp only [U, lkp, zE, reduceCtorEq, E, Y, D]
  refine aa fun K7 hK7 => ?_
  refine aa fun K8 hK8 => ?_
  refine af hP hN rfl ?_
  iterate 4 (refine ab rfl fun K0 V => ?_; simp only [zE, op1, ev, lkp, ah, ag, ao, ay, Nat.mul_one, aw, ax, acs, Ty.dflt, zG, ak, aE, bj, ba, aU, aV, bg, Nat.div_one, aM, aX, Ty.size, aI, dite_true, aB, aD, aC, aq, az, aP, reduceCtorEq, E, D, J, S, M, O, Try.el22, Try.st58, Try.td2, Try.td22, Try.td3, Try.td4, Try.td58, Mly.av]; (repeat refine And.intro (by first | omega | assumption | exact rfl) ?_); (first | refine V _ ?_ | refine Or.inl (V _ ?_)); clear V K0; simp only [put, app, Z, ae, zE, zS, D])
  refine ai ?_
  refine hK8 _ ?_; clear hK8; refine ad [0, 1, 2, 12, 16] ?_; simp only [U, lkp, zE, reduceCtorEq, E, Y, D]
  refine aA (by simp only [ev, U, lkp, zE, reduceCtorEq, E, Y, D]; exact rfl) (fun hc9 => ?_) (fun hc9 => ?_)
  ·(try simp only [zB, reduceCtorEq] at hc9)
   refine aa fun K10 hK10 => ?_
   refine af hP hN rfl ?_
   (refine ab rfl fun K0 V => ?_; simp only [zE, op1, ev, lkp, ah, ag, ev, reduceCtorEq, E, D, J, S, M, O, Try.td3, Mly.av]; refine V _ ?_; clear V K0; simp only [put, app, Z, ae, zE, zS, D])
   refine ai ?_
   refine hK10 _ ?_; clear hK10; refine ad [0, 1, 2, 12, 16] ?_; simp only [U, lkp, zE, reduceCtorEq, E, Y, D]
   refine aH ?_
   refine ⟨by first | exact .inl rfl | exact .inr rfl, _, rfl, ?_⟩; simp only [fzV, fz1, fzC, List.map_cons, List.map_nil, U, lkp, zE, reduceCtorEq, E, Y, D, Mly.av]
   refine VLE.of_eq ?_
   refine congrArg (fun n => AV.one (AC.int IntKind.i64 n)) ?_
   symm
   unfold c0
   first
   | (rw [if_pos (by omega)]; done)
   | (rw [if_neg (by omega), if_pos (by omega)]; done)
   | (rw [if_neg (by omega), if_neg (by omega), if_pos (by omega)]; done)
   | (rw [if_neg (by omega), if_neg (by omega), if_neg (by omega), if_pos (by omega)]; done)
   | (rw [if_neg (by omega), if_neg (by omega), if_neg (by omega), if_neg (by omega), if_pos (by omega)]; done)
   | (rw [if_neg (by omega), if_neg (by omega), if_neg (by omega), if_neg (by omega), if_neg (by omega)]
      first
      | exact aS hrows (by omega) (by assumption)
      | exact bu fun i hi => hrows i (by omega))
  ·(try simp only [zB, reduceCtorEq] at hc9)
   refine aG ?_
   refine hK7 _ ?_; clear hK7; refine ad [0, 1, 2, 12, 16] ?_; simp only [U, lkp, zE, reduceCtorEq, E, Y, D]
   refine aa fun K11 hK11 => ?_
   refine aa fun K12 hK12 => ?_
   refine af hP hN rfl ?_
   iterate 4 (refine ab rfl fun K0 V => ?_; simp only [zE, op1, ev, lkp, ah, ag, ao, ay, Nat.mul_one, aw, ax, acs, Ty.dflt, zG, ak, aE, bj, ba, aU, aV, bg, Nat.div_one, aM, aX, Ty.size, aI, dite_true, aB, aD, aC, aq, az, aP, reduceCtorEq, E, D, J, S, M, O, Try.el22, Try.st58, Try.td2, Try.td22, Try.td3, Try.td4, Try.td58, Mly.av]; (repeat refine And.intro (by first | omega | assumption | exact rfl) ?_); (first | refine V _ ?_ | refine Or.inl (V _ ?_)); clear V K0; simp only [put, app, Z, ae, zE, zS, D])
   refine ai ?_
   refine hK12 _ ?_; clear hK12; refine ad [0, 1, 2, 12, 16, 20] ?_; simp only [U, lkp, zE, reduceCtorEq, E, Y, D]
   refine aA (by simp only [ev, U, lkp, zE, reduceCtorEq, E, Y, D]; exact rfl) (fun hc13 => ?_) (fun hc13 => ?_)
   ·(try simp only [zB, reduceCtorEq] at hc13)
    refine aa fun K14 hK14 => ?_
    refine af hP hN rfl ?_
    (refine ab rfl fun K0 V => ?_; simp only [zE, op1, ev, lkp, ah, ag, ev, reduceCtorEq, E, D, J, S, M, O, Try.td3, Mly.av]; refine V _ ?_; clear V K0; simp only [put, app, Z, ae, zE, zS, D])
    refine ai ?_
    refine hK14 _ ?_; clear hK14; refine ad [0, 1, 2, 12, 16, 20] ?_; simp only [U, lkp, zE, reduceCtorEq, E, Y, D]
    refine aH ?_
    refine ⟨by first | exact .inl rfl | exact .inr rfl, _, rfl, ?_⟩; simp only [fzV, fz1, fzC, List.map_cons, List.map_nil, U, lkp, zE, reduceCtorEq, E, Y, D, Mly.av]
    refine VLE.of_eq ?_
    refine congrArg (fun n => AV.one (AC.int IntKind.i64 n)) ?_
    symm
    unfold c0
    first
    | (rw [if_pos (by omega)]; done)
    | (rw [if_neg (by omega), if_pos (by omega)]; done)
    | (rw [if_neg (by omega), if_neg (by omega), if_pos (by omega)]; done)
    | (rw [if_neg (by omega), if_neg (by omega), if_neg (by omega), if_pos (by omega)]; done)
    | (rw [if_neg (by omega), if_neg (by omega), if_neg (by omega), if_neg (by omega), if_pos (by omega)]; done)
    | (rw [if_neg (by omega), if_neg (by omega), if_neg (by omega), if_neg (by omega), if_neg (by omega)]
       first
       | exact aS hrows (by omega) (by assumption)
       | exact bu fun i hi => hrows i (by omega))
   ·(try simp only [zB, reduceCtorEq] at hc13)
    refine aG ?_
    refine hK11 _ ?_; clear hK11; refine ad [0, 1, 2, 12, 16, 20] ?_; simp only [U, lkp, zE, reduceCtorEq, E, Y, D]
    refine aa fun K15 hK15 => ?_
    refine aa fun K16 hK16 => ?_
    refine af hP hN rfl ?_
    iterate 3 (refine ab rfl fun K0 V => ?_; simp only [zE, op1, ev, lkp, ah, ag, ao, ay, Nat.mul_one, aw, ax, acs, Ty.dflt, zG, ak, aB, aD, aC, aq, az, aP, reduceCtorEq, E, D, J, S, M, O, Try.st58, Try.td1, Try.td3, Try.td4, Try.td58, Mly.av]; (repeat refine And.intro (by first | omega | assumption | exact rfl) ?_); refine V _ ?_; clear V K0; simp only [put, app, Z, ae, zE, zS, D])
    (refine ab rfl fun K0 V => ?_; simp only [zE, op1, ev, lkp, ah, ag, ev, reduceCtorEq, E, D, J, S, M, O, Try.td4, Mly.av]; refine V _ ?_; clear V K0; simp only [put, app, Z, ae, zE, zS, D])
    refine' aW (want := false) 6 rfl (m := 24) (by simp only [U, lkp, zE, reduceCtorEq, E, Y, D]; exact rfl) (by kernel_rfl) rfl rfl rfl rfl rfl (fun hg17 => ?a17) ?b17 ?c17
    case a17 =>
     have hq17 := hg17; (try simp only [zB, reduceCtorEq] at hg17); simp only [List.take_succ_cons, List.take_zero, List.cons_append, List.nil_append]
     (refine aF rfl fun K0 V => ?_; simp only [zE, op1, ev, lkp, ah, ag, ao, reduceCtorEq, E, D, J, S, M, O, Try.st58, Try.td1, Try.td58, Mly.av]; (repeat refine And.intro (by first | omega | assumption | exact rfl) ?_); refine V _ ?_; clear V K0; simp only [put, app, Z, ae, zE, zS, D])
     (refine aF rfl fun K0 V => ?_; simp only [zE, op1, ev, lkp, ah, ag, ay, Nat.mul_one, aw, ax, acs, Ty.dflt, zG, ak, reduceCtorEq, E, D, J, S, M, O, Try.td3, Mly.av]; (repeat refine And.intro (by first | omega | assumption | exact rfl) ?_); refine V _ ?_; clear V K0; simp only [put, app, Z, ae, zE, zS, D])
     (refine aF rfl fun K0 V => ?_; simp only [zE, op1, ev, lkp, ah, ag, ao, reduceCtorEq, E, D, J, S, M, O, Try.st58, Try.td2, Try.td58, Mly.av]; (repeat refine And.intro (by first | omega | assumption | exact rfl) ?_); refine V _ ?_; clear V K0; simp only [put, app, Z, ae, zE, zS, D])
     (refine aF rfl fun K0 V => ?_; simp only [zE, op1, ev, lkp, ah, ag, ay, Nat.mul_one, aw, ax, acs, Ty.dflt, zG, ak, reduceCtorEq, E, D, J, S, M, O, Try.el22, Try.td22, Mly.av]; (repeat refine And.intro (by first | omega | assumption | exact rfl) ?_); refine V _ ?_; clear V K0; simp only [put, app, Z, ae, zE, zS, D])
     (refine aF rfl fun K0 V => ?_; simp only [zE, op1, ev, lkp, ah, ag, aE, bj, ba, aU, aV, bg, Nat.div_one, aM, aX, Ty.size, aI, dite_true, reduceCtorEq, E, D, J, S, M, O, Try.el22, Try.td22, Try.td3, Mly.av]; (repeat refine And.intro (by first | omega | assumption | exact rfl) ?_); (first | refine V _ ?_ | refine Or.inl (V _ ?_)); clear V K0; simp only [put, app, Z, ae, zE, zS, D])
     (refine aF rfl fun K0 V => ?_; simp only [zE, op1, ev, lkp, ah, ag, aB, aD, aC, aq, az, aP, reduceCtorEq, E, D, J, S, M, O, Try.td3, Try.td4, Mly.av]; (repeat refine And.intro (by first | omega | assumption | exact rfl) ?_); refine V _ ?_; clear V K0; simp only [put, app, Z, ae, zE, zS, D])
     (refine ab rfl fun K0 V => ?_; simp only [zE, op1, ev, lkp, ah, ag, bt, reduceCtorEq, E, D, J, S, M, O, Try.td4, Mly.av]; refine V _ ?_; clear V K0; simp only [put, app, Z, ae, zE, zS, D])
     refine ai ?_
     refine ⟨by simp only [U, lkp, zE, reduceCtorEq, E, Y, D]; exact rfl, rfl, ?_, rfl⟩; (repeat refine aY rfl ?_); exact bz (by exact rfl) hq17
    case b17 => exact bv (by first | rfl | (simp [bU]; done) | decide)
    simp only [bh, bc]
    refine ai ?_
    refine hK16 _ ?_; clear hK16; refine ad [0, 1, 2, 12, 16, 20, 31] ?_; simp only [U, lkp, zE, reduceCtorEq, E, Y, D]
    refine aA (by simp only [ev, U, lkp, zE, reduceCtorEq, E, Y, D]; exact rfl) (fun hc18 => ?_) (fun hc18 => ?_)
    ·(try simp only [zB, reduceCtorEq] at hc18)
     refine aa fun K19 hK19 => ?_
     refine af hP hN rfl ?_
     (refine ab rfl fun K0 V => ?_; simp only [zE, op1, ev, lkp, ah, ag, ev, reduceCtorEq, E, D, J, S, M, O, Try.td3, Mly.av]; refine V _ ?_; clear V K0; simp only [put, app, Z, ae, zE, zS, D])
     refine ai ?_
     refine hK19 _ ?_; clear hK19; refine ad [0, 1, 2, 12, 16, 20, 31] ?_; simp only [U, lkp, zE, reduceCtorEq, E, Y, D]
     refine aH ?_
     refine ⟨by first | exact .inl rfl | exact .inr rfl, _, rfl, ?_⟩; simp only [fzV, fz1, fzC, List.map_cons, List.map_nil, U, lkp, zE, reduceCtorEq, E, Y, D, Mly.av]
     refine VLE.of_eq ?_
     refine congrArg (fun n => AV.one (AC.int IntKind.i64 n)) ?_
     symm
     unfold c0
     first
     | (rw [if_pos (by omega)]; done)
     | (rw [if_neg (by omega), if_pos (by omega)]; done)
     | (rw [if_neg (by omega), if_neg (by omega), if_pos (by omega)]; done)
     | (rw [if_neg (by omega), if_neg (by omega), if_neg (by omega), if_pos (by omega)]; done)
     | (rw [if_neg (by omega), if_neg (by omega), if_neg (by omega), if_neg (by omega), if_pos (by omega)]; done)
     | (rw [if_neg (by omega), if_neg (by omega), if_neg (by omega), if_neg (by omega), if_neg (by omega)]
        first
        | exact aS hrows (by omega) (by assumption)
        | exact bu fun i hi => hrows i (by omega))
    ·(try simp only [zB, reduceCtorEq] at hc18)
     refine aG ?_
     refine hK15 _ ?_; clear hK15; refine ad [0, 1, 2, 12, 16, 20, 31] ?_; simp only [U, lkp, zE, reduceCtorEq, E, Y, D]
     refine aa fun K20 hK20 => ?_
     refine aa fun K21 hK21 => ?_
     refine af hP hN rfl ?_
     iterate 7 (refine ab rfl fun K0 V => ?_; simp only [zE, op1, ev, lkp, ah, ag, ao, ay, Nat.mul_one, aw, ax, acs, Ty.dflt, zG, ak, aE, bj, ba, aU, aV, bg, Nat.div_one, aM, aX, Ty.size, aI, dite_true, aB, aD, aC, aq, az, aP, reduceCtorEq, E, D, J, S, M, O, Try.el22, Try.st58, Try.td2, Try.td22, Try.td3, Try.td4, Try.td58, Mly.av]; (repeat refine And.intro (by first | omega | assumption | exact rfl) ?_); (first | refine V _ ?_ | refine Or.inl (V _ ?_)); clear V K0; simp only [put, app, Z, ae, zE, zS, D])
     refine ai ?_
     refine hK21 _ ?_; clear hK21; refine ad [0, 1, 2, 12, 16, 20, 31, 38] ?_; simp only [U, lkp, zE, reduceCtorEq, E, Y, D]
     refine aA (by simp only [ev, U, lkp, zE, reduceCtorEq, E, Y, D]; exact rfl) (fun hc22 => ?_) (fun hc22 => ?_)
     ·(try simp only [zB, reduceCtorEq] at hc22)
      refine aa fun K23 hK23 => ?_
      refine af hP hN rfl ?_
      (refine ab rfl fun K0 V => ?_; simp only [zE, op1, ev, lkp, ah, ag, ev, reduceCtorEq, E, D, J, S, M, O, Try.td3, Mly.av]; refine V _ ?_; clear V K0; simp only [put, app, Z, ae, zE, zS, D])
      refine ai ?_
      refine hK23 _ ?_; clear hK23; refine ad [0, 1, 2, 12, 16, 20, 31, 38] ?_; simp only [U, lkp, zE, reduceCtorEq, E, Y, D]
      refine aH ?_
      refine ⟨by first | exact .inl rfl | exact .inr rfl, _, rfl, ?_⟩; simp only [fzV, fz1, fzC, List.map_cons, List.map_nil, U, lkp, zE, reduceCtorEq, E, Y, D, Mly.av]
      refine VLE.of_eq ?_
      refine congrArg (fun n => AV.one (AC.int IntKind.i64 n)) ?_
      symm
      unfold c0
      first
      | (rw [if_pos (by omega)]; done)
      | (rw [if_neg (by omega), if_pos (by omega)]; done)
      | (rw [if_neg (by omega), if_neg (by omega), if_pos (by omega)]; done)
      | (rw [if_neg (by omega), if_neg (by omega), if_neg (by omega), if_pos (by omega)]; done)
      | (rw [if_neg (by omega), if_neg (by omega), if_neg (by omega), if_neg (by omega), if_pos (by omega)]; done)
      | (rw [if_neg (by omega), if_neg (by omega), if_neg (by omega), if_neg (by omega), if_neg (by omega)]
         first
         | exact aS hrows (by omega) (by assumption)
         | exact bu fun i hi => hrows i (by omega))
     ·(try simp only [zB, reduceCtorEq] at hc22)
      refine aG ?_
      refine hK20 _ ?_; clear hK20; refine ad [0, 1, 2, 12, 16, 20, 31, 38] ?_; simp only [U, lkp, zE, reduceCtorEq, E, Y, D]
      refine aa fun K24 hK24 => ?_
      refine aa fun K25 hK25 => ?_
      refine af hP hN rfl ?_
      (refine ab rfl fun K0 V => ?_; simp only [zE, op1, ev, lkp, ah, ag, ev, reduceCtorEq, E, D, J, S, M, O, Try.td3, Mly.av]; refine V _ ?_; clear V K0; simp only [put, app, Z, ae, zE, zS, D])
      refine ai ?_
      refine hK25 _ ?_; clear hK25; refine ad [0, 1, 2, 3, 12, 16, 20, 31, 38] ?_; simp only [U, lkp, zE, reduceCtorEq, E, Y, D]
      refine aN ?_
      refine bo (fun n26 s26 => ∃ (k : Nat), (k ≤ m.nx.length) ∧ (∀ i, i < k → fI m i = 0) ∧ n26 = m.nx.length - k ∧ s26 = { env := [(1, .one (.ptr 0 0 0 0)), (3, .one (.int .i64 (k : Int)))], L := [.vars 58 [.int .i64 m.inp, .int .i64 m.st, .list (.list (.int .i64)) m.nx, .list (.list (.int .i64)) m.ot]] }) ?_ ?_
      ·exact ⟨_, _, aJ [1, 3], 0, Nat.zero_le _, fun i hi => by omega, rfl, rfl⟩
      ·rintro n26 s26 ⟨k, hk, hrows, rfl, rfl⟩
       refine aa fun K27 hK27 => ?_
       refine aa fun K28 hK28 => ?_
       refine af hP hN rfl ?_
       iterate 5 (refine ab rfl fun K0 V => ?_; simp only [zE, op1, ev, lkp, ah, ag, ao, ay, Nat.mul_one, aw, ax, acs, Ty.dflt, zG, ak, aE, bj, ba, aU, aV, bg, Nat.div_one, aM, aX, Ty.size, aI, dite_true, aB, aD, aC, aq, az, aP, reduceCtorEq, E, D, J, S, M, O, Try.el22, Try.st58, Try.td2, Try.td22, Try.td3, Try.td4, Try.td58, Mly.av]; (repeat refine And.intro (by first | omega | assumption | exact rfl) ?_); (first | refine V _ ?_ | refine Or.inl (V _ ?_)); clear V K0; simp only [put, app, Z, ae, zE, zS, D])
       refine ai ?_
       refine hK28 _ ?_; clear hK28; refine ad [1, 3, 43] ?_; simp only [U, lkp, zE, reduceCtorEq, E, Y, D]
       refine aA (by simp only [ev, U, lkp, zE, reduceCtorEq, E, Y, D]; exact rfl) (fun hc29 => ?_) (fun hc29 => ?_)
       ·(try simp only [zB, reduceCtorEq] at hc29)
        refine aG ?_
        refine hK27 _ ?_; clear hK27; refine ad [1, 3, 43] ?_; simp only [U, lkp, zE, reduceCtorEq, E, Y, D]
        refine aa fun K30 hK30 => ?_
        refine aN ?_
        refine aa fun K31 hK31 => ?_
        refine af hP hN rfl ?_
        iterate 2 (refine ab rfl fun K0 V => ?_; simp only [zE, op1, ev, lkp, ah, ag, ay, Nat.mul_one, aw, ax, acs, Ty.dflt, zG, ak, reduceCtorEq, E, D, J, S, M, O, Try.st58, Try.td3, Try.td58, Mly.av]; (repeat refine And.intro (by first | omega | assumption | exact rfl) ?_); refine V _ ?_; clear V K0; simp only [put, app, Z, ae, zE, zS, D])
        refine ab rfl fun K0 V => ?_
        refine aT (h := aL (rk m k (by omega) (by omega) (by omega))) rfl rfl (by first | exact rfl | (simp only [ev, U, lkp, zE, reduceCtorEq, E, Y, D]; exact rfl)) (by simp only [zE, zG, op1, ev, lkp, ah, ag, am, acs, be, mv1, mvC, Ty.dflt, reduceCtorEq, E, D, J, S, M, O, Mly.av]) ?_
        refine V _ ?_; clear V K0; simp only [put, app, Z, ae, zE, zS, D]
        (refine ab rfl fun K0 V => ?_; simp only [zE, op1, ev, lkp, ah, ag, ev, reduceCtorEq, E, D, J, S, M, O, Try.td3, Mly.av]; refine V _ ?_; clear V K0; simp only [put, app, Z, ae, zE, zS, D])
        refine ai ?_
        refine hK31 _ ?_; clear hK31; refine ad [1, 3, 4, 43] ?_; simp only [U, lkp, zE, reduceCtorEq, E, Y, D]
        refine aa fun K32 hK32 => ?_
        refine af hP hN rfl ?_
        iterate 2 (refine ab rfl fun K0 V => ?_; simp only [zE, op1, ev, lkp, ah, ag, aB, aD, aC, aq, az, aP, reduceCtorEq, E, D, J, S, M, O, Try.td3, Try.td4, Mly.av]; (repeat refine And.intro (by first | omega | assumption | exact rfl) ?_); refine V _ ?_; clear V K0; simp only [put, app, Z, ae, zE, zS, D])
        refine ai ?_
        refine hK32 _ ?_; clear hK32; refine ad [1, 3, 4, 43, 50] ?_; simp only [U, lkp, zE, reduceCtorEq, E, Y, D]
        refine aA (by simp only [ev, U, lkp, zE, reduceCtorEq, E, Y, D]; exact rfl) (fun hc33 => ?_) (fun hc33 => ?_)
        ·(try simp only [zB, reduceCtorEq] at hc33)
         refine aa fun K34 hK34 => ?_
         refine af hP hN rfl ?_
         iterate 2 (refine ab rfl fun K0 V => ?_; simp only [zE, op1, ev, lkp, ah, ag, ev, reduceCtorEq, E, D, J, S, M, O, Try.td3, Mly.av]; refine V _ ?_; clear V K0; simp only [put, app, Z, ae, zE, zS, D])
         refine ai ?_
         refine hK34 _ ?_; clear hK34; refine ad [1, 2, 3, 4, 43, 50] ?_; simp only [U, lkp, zE, reduceCtorEq, E, Y, D]
         refine aH ?_
         refine ⟨by first | exact .inl rfl | exact .inr rfl, _, rfl, ?_⟩; simp only [fzV, fz1, fzC, List.map_cons, List.map_nil, U, lkp, zE, reduceCtorEq, E, Y, D, Mly.av]
         refine VLE.of_eq ?_
         refine congrArg (fun n => AV.one (AC.int IntKind.i64 n)) ?_
         symm
         unfold c0
         first
         | (rw [if_pos (by omega)]; done)
         | (rw [if_neg (by omega), if_pos (by omega)]; done)
         | (rw [if_neg (by omega), if_neg (by omega), if_pos (by omega)]; done)
         | (rw [if_neg (by omega), if_neg (by omega), if_neg (by omega), if_pos (by omega)]; done)
         | (rw [if_neg (by omega), if_neg (by omega), if_neg (by omega), if_neg (by omega), if_pos (by omega)]; done)
         | (rw [if_neg (by omega), if_neg (by omega), if_neg (by omega), if_neg (by omega), if_neg (by omega)]
            first
            | exact aS hrows (by omega) (by assumption)
            | exact bu fun i hi => hrows i (by omega))
        ·(try simp only [zB, reduceCtorEq] at hc33)
         refine aG ?_
         refine hK30 _ ?_; clear hK30; refine ad [1, 3, 4, 43, 50] ?_; simp only [U, lkp, zE, reduceCtorEq, E, Y, D]
         refine af hP hN rfl ?_
         iterate 3 (refine ab rfl fun K0 V => ?_; simp only [zE, op1, ev, lkp, ah, ag, aB, aD, aC, aq, az, aP, reduceCtorEq, E, D, J, S, M, O, Try.td3, Mly.av]; (repeat refine And.intro (by first | omega | assumption | exact rfl) ?_); refine V _ ?_; clear V K0; simp only [put, app, Z, ae, zE, zS, D])
         refine ai ?_
         refine ⟨_, _, ?_, aJ [1, 3], k + 1, by omega, fun i hi => ?_, rfl, rfl⟩
         · omega
         · by_cases e : i = k
           · rw [e]; first | assumption | omega
           · exact hrows i (by omega)
       ·(try simp only [zB, reduceCtorEq] at hc29)
        refine bm ?_
        refine hK24 _ ?_; clear hK24; refine ad [1, 3, 43] ?_; simp only [U, lkp, zE, reduceCtorEq, E, Y, D]
        refine aa fun K35 hK35 => ?_
        refine af hP hN rfl ?_
        (refine ab rfl fun K0 V => ?_; simp only [zE, op1, ev, lkp, ah, ag, ev, reduceCtorEq, E, D, J, S, M, O, Try.td3, Mly.av]; refine V _ ?_; clear V K0; simp only [put, app, Z, ae, zE, zS, D])
        refine ai ?_
        refine hK35 _ ?_; clear hK35; refine ad [1, 2, 3, 43] ?_; simp only [U, lkp, zE, reduceCtorEq, E, Y, D]
        refine aH ?_
        refine ⟨by first | exact .inl rfl | exact .inr rfl, _, rfl, ?_⟩; simp only [fzV, fz1, fzC, List.map_cons, List.map_nil, U, lkp, zE, reduceCtorEq, E, Y, D, Mly.av]
        refine VLE.of_eq ?_
        refine congrArg (fun n => AV.one (AC.int IntKind.i64 n)) ?_
        symm
        unfold c0
        first
        | (rw [if_pos (by omega)]; done)
        | (rw [if_neg (by omega), if_pos (by omega)]; done)
        | (rw [if_neg (by omega), if_neg (by omega), if_pos (by omega)]; done)
        | (rw [if_neg (by omega), if_neg (by omega), if_neg (by omega), if_pos (by omega)]; done)
        | (rw [if_neg (by omega), if_neg (by omega), if_neg (by omega), if_neg (by omega), if_pos (by omega)]; done)
        | (rw [if_neg (by omega), if_neg (by omega), if_neg (by omega), if_neg (by omega), if_neg (by omega)]
           first
           | exact aS hrows (by omega) (by assumption)
           | exact bu fun i hi => hrows i (by omega))
end Go.Proofs.Ytdkgcbhbpdbmnaa
namespace Go.Proofs.Ytdkgcbhbpdbmnaa
open Go Go.AV
open Nat renaming reduceEqDiff → E, reduceAdd → D, reduceLeDiff → J, reduceLT → S, reduceMul → M, reduceSub → O
open List renaming set_cons_zero → au, set_cons_succ → ar
set_option maxRecDepth 100000 in
set_option maxHeartbeats 2000000 in
theorem oA (m : Mly) (acc : Bool) : bG Try.prog 34 [m.av, .one (.bool acc)] (.tup [(fmD m acc).av, .one (.int .i64 (fmE m acc))]) := by
 refine aR Try.func34 rfl (by kernel_rfl) (Nat.le_of_ble_eq_true rfl) rfl fun C hP hN hB => ?_
 replace hN : C.N = 131 := hN
 simp only [Y, D]
 refine aa fun K1 hK1 => ?_
 refine af hP hN rfl ?_
 iterate 3 (refine ab rfl fun K0 V => ?_; simp only [zE, op1, ev, lkp, ah, ag, ca, am, bE, reduceCtorEq, E, D, J, S, M, O, Try.st25, Try.st58, Try.td25, Try.td3, Try.td58, Mly.av, Dfa.av, List.length_map]; (repeat refine And.intro (by first | omega | assumption | exact rfl) ?_); (first | refine V _ ?_ | refine Or.inl (V _ ?_)); clear V K0; simp only [put, app, Z, ae, zE, zS, D])
 refine ai ?_
 refine hK1 _ ?_; clear hK1; refine ad [0, 1, 2, 4, 5] ?_; simp only [U, lkp, zE, reduceCtorEq, E, Y, D]
 refine aa fun K2 hK2 => ?_
 refine aa fun K3 hK3 => ?_
 refine af hP hN rfl ?_
 (refine ab rfl fun K0 V => ?_; simp only [zE, op1, ev, lkp, ah, ag, ay, Nat.mul_one, aw, ax, acs, Ty.dflt, zG, ak, reduceCtorEq, E, D, J, S, M, O, Try.st58, Try.td58, Mly.av, Dfa.av, List.length_map]; (repeat refine And.intro (by first | omega | assumption | exact rfl) ?_); refine V _ ?_; clear V K0; simp only [put, app, Z, ae, zE, zS, D])
 refine ab rfl fun K0 V => ?_
 refine aT (h := aL (kD m)) rfl rfl (by first | exact rfl | (simp only [ev, U, lkp, zE, reduceCtorEq, E, Y, D]; exact rfl)) (by simp only [zE, zG, op1, ev, lkp, ah, ag, am, acs, be, mv1, mvC, Ty.dflt, reduceCtorEq, E, D, J, S, M, O, Mly.av, Dfa.av, List.length_map]) ?_
 refine V _ ?_; clear V K0; simp only [put, app, Z, ae, zE, zS, D]
 (refine ab rfl fun K0 V => ?_; simp only [zE, op1, ev, lkp, ah, ag, aB, aD, aC, aq, az, aP, reduceCtorEq, E, D, J, S, M, O, Try.td3, Try.td4, Mly.av, Dfa.av, List.length_map]; (repeat refine And.intro (by first | omega | assumption | exact rfl) ?_); refine V _ ?_; clear V K0; simp only [put, app, Z, ae, zE, zS, D])
 refine ai ?_
 refine hK3 _ ?_; clear hK3; refine ad [0, 1, 2, 4, 5, 18] ?_; simp only [U, lkp, zE, reduceCtorEq, E, Y, D]
 refine aA (by simp only [ev, U, lkp, zE, reduceCtorEq, E, Y, D]; exact rfl) (fun hc4 => ?_) (fun hc4 => ?_)
 ·(try simp only [zB, reduceCtorEq] at hc4)
  refine aa fun K5 hK5 => ?_
  refine af hP hN rfl ?_
  iterate 2 (refine ab rfl fun K0 V => ?_; simp only [zE, op1, ev, lkp, ah, ag, bH, b0, aO, am, ay, Nat.mul_one, aw, ax, acs, Ty.dflt, zG, ak, reduceCtorEq, E, D, J, S, M, O, Try.st25, Try.st58, Try.td25, Try.td58, Mly.av, Dfa.av, List.length_map]; (repeat refine And.intro (by first | omega | assumption | exact rfl) ?_); (first | refine V _ ?_ | refine Or.inl (V _ ?_)); clear V K0; simp only [put, app, Z, ae, zE, zS, D])
  refine ab rfl fun K0 V => ?_
  refine aT (h := aL (kD m)) rfl rfl (by first | exact rfl | (simp only [ev, U, lkp, zE, reduceCtorEq, E, Y, D]; exact rfl)) (by simp only [zE, zG, op1, ev, lkp, ah, ag, am, acs, be, mv1, mvC, Ty.dflt, reduceCtorEq, E, D, J, S, M, O, Mly.av, Dfa.av, List.length_map]) ?_
  refine V _ ?_; clear V K0; simp only [put, app, Z, ae, zE, zS, D]
  iterate 2 (refine ab rfl fun K0 V => ?_; simp only [zE, op1, ev, lkp, ah, ag, aZ, Nat.mul_one, am, aO, aI, acs, Ty.size, Ty.dflt, zG, reduceCtorEq, E, D, J, S, M, O, Try.st25, Try.td25, Try.td3, Mly.av, Dfa.av, List.length_map]; (repeat refine And.intro (by first | omega | assumption | exact rfl) ?_); refine V _ ?_; clear V K0; simp only [put, app, Z, ae, zE, zS, D])
  refine ai ?_
  refine hK5 _ ?_; clear hK5; refine ad [0, 1, 2, 4, 5, 18] ?_; simp only [U, lkp, zE, reduceCtorEq, E, Y, D]
  refine aH ?_
  refine ⟨by first | exact .inl rfl | exact .inr rfl, _, rfl, ?_⟩; simp only [fzV, fz1, fzC, List.map_cons, List.map_nil, U, lkp, zE, reduceCtorEq, E, Y, D, Mly.av, Dfa.av, List.length_map]
  first
  | (have g9 := gJ (acc := acc) (by assumption); obtain ⟨g1, g2⟩ := g9; rw [g1, g2]; exact br ⟨bp ⟨.refl _, .refl _, aQ rfl, aQ rfl, trivial⟩, bf (.refl _), trivial⟩)
  | (have g9 := gC (acc := acc) hv hbig; obtain ⟨g1, g2⟩ := g9; rw [g1, g2]; exact br ⟨bp ⟨.refl _, .refl _, aQ rfl, aQ rfl, trivial⟩, bf (.refl _), trivial⟩)
  | (have g9 := dh (acc := acc) hv hbg; obtain ⟨g1, g2⟩ := g9
     have g3 : dBE (bZ m acc) = 11 := if_pos (by rw [← hLL]; omega)
     have g4 : dBD (bB m) cW m.inp.toNat (bZ m acc) = cY := if_pos (by rw [← hLL]; omega)
     rw [g1, g2, g3, g4]; exact br ⟨bp ⟨.refl _, .refl _, aQ rfl, aQ rfl, trivial⟩, bf (.refl _), trivial⟩)
  | (have g9 := dh (acc := acc) hv hbg; obtain ⟨g1, g2⟩ := g9
     have hke : k = (bZ m acc).length := by rw [← hLL]; omega
     have g3 : dBE (bZ m acc) = 0 := if_neg (by rw [← hLL]; omega)
     have g4 : dBD (bB m) cW m.inp.toNat (bZ m acc) = dBn (bB m) cW m.inp.toNat (bZ m acc) := if_neg (by rw [← hLL]; omega)
     rw [g1, g2, g3, g4, gr (by omega), hke, List.take_length]; exact VLE.of_eq rfl)
 ·(try simp only [zB, reduceCtorEq] at hc4)
  have hv : c0 m = 0 := by omega
  have hm := jd hv; have a1 := hm.i1; have a2 := hm.i2; have a3 := hm.n1; have a4 := hm.n2; have a7 := hm.ol
  refine aG ?_
  refine hK2 _ ?_; clear hK2; refine ad [0, 1, 2, 4, 5, 18] ?_; simp only [U, lkp, zE, reduceCtorEq, E, Y, D]
  refine aa fun K6 hK6 => ?_
  refine af hP hN rfl ?_
  iterate 4 (refine ab rfl fun K0 V => ?_; simp only [zE, op1, ev, lkp, ah, ag, ao, ay, Nat.mul_one, aw, ax, acs, Ty.dflt, zG, ak, aE, bj, ba, aU, aV, bg, Nat.div_one, aM, aX, Ty.size, aI, dite_true, reduceCtorEq, E, D, J, S, M, O, Try.el22, Try.st58, Try.td2, Try.td22, Try.td3, Try.td58, Mly.av, Dfa.av, List.length_map]; (repeat refine And.intro (by first | omega | assumption | exact rfl) ?_); (first | refine V _ ?_ | refine Or.inl (V _ ?_)); clear V K0; simp only [put, app, Z, ae, zE, zS, D])
  refine ai ?_
  refine hK6 _ ?_; clear hK6; refine ad [0, 1, 2, 4, 5, 6, 18] ?_; simp only [U, lkp, zE, reduceCtorEq, E, Y, D]
  refine aa fun K7 hK7 => ?_
  refine aa fun K8 hK8 => ?_
  refine af hP hN rfl ?_
  (refine ab rfl fun K0 V => ?_; simp only [zE, op1, ev, lkp, ah, ag, ev, reduceCtorEq, E, D, J, S, M, O, Try.td3, Mly.av, Dfa.av, List.length_map]; refine V _ ?_; clear V K0; simp only [put, app, Z, ae, zE, zS, D])
  refine ai ?_
  refine hK8 _ ?_; clear hK8; refine ad [0, 1, 2, 4, 5, 6, 7, 18] ?_; simp only [U, lkp, zE, reduceCtorEq, E, Y, D]
  refine aN ?_
  refine bo (fun n9 s9 => ∃ (s : Nat), (s ≤ m.nx.length) ∧ (∀ q a : Nat, q < s → (a : Int) < m.inp → (m.ot.getD q []).getD a 0 ≤ 1) ∧ n9 = m.nx.length - s ∧ s9 = { env := [(1, .one (.bool acc)), (2, .one (.ptr 0 0 0 0)), (4, .one (.ptr 1 0 0 0)), (5, .one (.int .i64 0)), (6, .one (.int .i64 (m.nx.length : Int))), (7, .one (.int .i64 (s : Int)))], L := [.vars 58 [.int .i64 m.inp, .int .i64 m.st, .list (.list (.int .i64)) m.nx, .list (.list (.int .i64)) m.ot], .vars 25 [.int .i64 0, .int .i64 0, .nils, .nils]] }) ?_ ?_
  ·exact ⟨_, _, aJ [1, 2, 4, 5, 6, 7], 0, Nat.zero_le _, fun q a hq => by omega, rfl, rfl⟩
  ·rintro n9 s9 ⟨s, hs, hsc, rfl, rfl⟩
   refine aa fun K10 hK10 => ?_
   refine aa fun K11 hK11 => ?_
   refine af hP hN rfl ?_
   iterate 3 (refine ab rfl fun K0 V => ?_; simp only [zE, op1, ev, lkp, ah, ag, aB, aD, aC, aq, az, aP, reduceCtorEq, E, D, J, S, M, O, Try.td3, Try.td4, Mly.av, Dfa.av, List.length_map]; (repeat refine And.intro (by first | omega | assumption | exact rfl) ?_); refine V _ ?_; clear V K0; simp only [put, app, Z, ae, zE, zS, D])
   refine ai ?_
   refine hK11 _ ?_; clear hK11; refine ad [1, 2, 4, 5, 6, 7, 27] ?_; simp only [U, lkp, zE, reduceCtorEq, E, Y, D]
   refine aA (by simp only [ev, U, lkp, zE, reduceCtorEq, E, Y, D]; exact rfl) (fun hc12 => ?_) (fun hc12 => ?_)
   ·(try simp only [zB, reduceCtorEq] at hc12)
    refine aG ?_
    refine hK10 _ ?_; clear hK10; refine ad [1, 2, 4, 5, 6, 7, 27] ?_; simp only [U, lkp, zE, reduceCtorEq, E, Y, D]
    refine aa fun K13 hK13 => ?_
    refine aN ?_
    refine aa fun K14 hK14 => ?_
    have hsn : s < m.nx.length := by omega
    refine af hP hN rfl ?_
    (refine ab rfl fun K0 V => ?_; simp only [zE, op1, ev, lkp, ah, ag, ev, reduceCtorEq, E, D, J, S, M, O, Try.td3, Mly.av, Dfa.av, List.length_map]; refine V _ ?_; clear V K0; simp only [put, app, Z, ae, zE, zS, D])
    refine ai ?_
    refine hK14 _ ?_; clear hK14; refine ad [1, 2, 4, 5, 6, 7, 8, 27] ?_; simp only [U, lkp, zE, reduceCtorEq, E, Y, D]
    refine aN ?_
    refine bo (fun n15 s15 => ∃ (a : Nat), ((a : Int) ≤ m.inp) ∧ (∀ x : Nat, x < a → (m.ot.getD s []).getD x 0 ≤ 1) ∧ n15 = m.inp.toNat - a ∧ s15 = { env := [(1, .one (.bool acc)), (2, .one (.ptr 0 0 0 0)), (4, .one (.ptr 1 0 0 0)), (5, .one (.int .i64 0)), (6, .one (.int .i64 (m.nx.length : Int))), (7, .one (.int .i64 (s : Int))), (8, .one (.int .i64 (a : Int)))], L := [.vars 58 [.int .i64 m.inp, .int .i64 m.st, .list (.list (.int .i64)) m.nx, .list (.list (.int .i64)) m.ot], .vars 25 [.int .i64 0, .int .i64 0, .nils, .nils]] }) ?_ ?_
    ·exact ⟨_, _, aJ [1, 2, 4, 5, 6, 7, 8], 0, by omega, fun q hq => by omega, rfl, rfl⟩
    ·rintro n15 s15 ⟨a, ha, hac, rfl, rfl⟩
     refine aa fun K16 hK16 => ?_
     refine aa fun K17 hK17 => ?_
     refine af hP hN rfl ?_
     iterate 4 (refine ab rfl fun K0 V => ?_; simp only [zE, op1, ev, lkp, ah, ag, ao, ay, Nat.mul_one, aw, ax, acs, Ty.dflt, zG, ak, aB, aD, aC, aq, az, aP, reduceCtorEq, E, D, J, S, M, O, Try.st58, Try.td3, Try.td4, Try.td58, Mly.av, Dfa.av, List.length_map]; (repeat refine And.intro (by first | omega | assumption | exact rfl) ?_); refine V _ ?_; clear V K0; simp only [put, app, Z, ae, zE, zS, D])
     refine ai ?_
     refine hK17 _ ?_; clear hK17; refine ad [1, 2, 4, 5, 6, 7, 8, 33] ?_; simp only [U, lkp, zE, reduceCtorEq, E, Y, D]
     refine aA (by simp only [ev, U, lkp, zE, reduceCtorEq, E, Y, D]; exact rfl) (fun hc18 => ?_) (fun hc18 => ?_)
     ·(try simp only [zB, reduceCtorEq] at hc18)
      refine aG ?_
      refine hK16 _ ?_; clear hK16; refine ad [1, 2, 4, 5, 6, 7, 8, 33] ?_; simp only [U, lkp, zE, reduceCtorEq, E, Y, D]
      refine aa fun K19 hK19 => ?_
      refine aN ?_
      refine aa fun K20 hK20 => ?_
      have hsq := hm.ql s (by omega)
      refine af hP hN rfl ?_
      iterate 9 (refine ab rfl fun K0 V => ?_; simp only [zE, op1, ev, lkp, ah, ag, ao, ay, Nat.mul_one, aw, ax, acs, Ty.dflt, zG, ak, aK, Ty.size, ne_eq, not_false_eq_true, Int.natCast_one, Int.mul_one, aB, aD, aC, aq, az, aP, reduceCtorEq, E, D, J, S, M, O, Try.el22, Try.el26, Try.st58, Try.td22, Try.td26, Try.td3, Try.td4, Try.td58, Mly.av, Dfa.av, List.length_map]; (repeat refine And.intro (by first | omega | assumption | exact rfl) ?_); refine V _ ?_; clear V K0; simp only [put, app, Z, ae, zE, zS, D])
      refine ai ?_
      refine hK20 _ ?_; clear hK20; refine ad [1, 2, 4, 5, 6, 7, 8, 33, 44] ?_; simp only [U, lkp, zE, reduceCtorEq, E, Y, D]
      refine aA (by simp only [ev, U, lkp, zE, reduceCtorEq, E, Y, D]; exact rfl) (fun hc21 => ?_) (fun hc21 => ?_)
      ·(try simp only [zB, reduceCtorEq] at hc21)
       have hbig : dn m = true := nB hm (s := s) (a := a) (by omega) (by omega) hc21
       refine aa fun K22 hK22 => ?_
       refine af hP hN rfl ?_
       iterate 3 (refine ab rfl fun K0 V => ?_; simp only [zE, op1, ev, lkp, ah, ag, bH, b0, aO, am, aZ, Nat.mul_one, aI, acs, Ty.size, Ty.dflt, zG, reduceCtorEq, E, D, J, S, M, O, Try.st25, Try.td25, Try.td3, Mly.av, Dfa.av, List.length_map]; (repeat refine And.intro (by first | omega | assumption | exact rfl) ?_); (first | refine V _ ?_ | refine Or.inl (V _ ?_)); clear V K0; simp only [put, app, Z, ae, zE, zS, D])
       refine ai ?_
       refine hK22 _ ?_; clear hK22; refine ad [1, 2, 4, 5, 6, 7, 8, 33, 44] ?_; simp only [U, lkp, zE, reduceCtorEq, E, Y, D]
       refine aH ?_
       refine ⟨by first | exact .inl rfl | exact .inr rfl, _, rfl, ?_⟩; simp only [fzV, fz1, fzC, List.map_cons, List.map_nil, U, lkp, zE, reduceCtorEq, E, Y, D, Mly.av, Dfa.av, List.length_map]
       first
       | (have g9 := gJ (acc := acc) (by assumption); obtain ⟨g1, g2⟩ := g9; rw [g1, g2]; exact br ⟨bp ⟨.refl _, .refl _, aQ rfl, aQ rfl, trivial⟩, bf (.refl _), trivial⟩)
       | (have g9 := gC (acc := acc) hv hbig; obtain ⟨g1, g2⟩ := g9; rw [g1, g2]; exact br ⟨bp ⟨.refl _, .refl _, aQ rfl, aQ rfl, trivial⟩, bf (.refl _), trivial⟩)
       | (have g9 := dh (acc := acc) hv hbg; obtain ⟨g1, g2⟩ := g9
          have g3 : dBE (bZ m acc) = 11 := if_pos (by rw [← hLL]; omega)
          have g4 : dBD (bB m) cW m.inp.toNat (bZ m acc) = cY := if_pos (by rw [← hLL]; omega)
          rw [g1, g2, g3, g4]; exact br ⟨bp ⟨.refl _, .refl _, aQ rfl, aQ rfl, trivial⟩, bf (.refl _), trivial⟩)
       | (have g9 := dh (acc := acc) hv hbg; obtain ⟨g1, g2⟩ := g9
          have hke : k = (bZ m acc).length := by rw [← hLL]; omega
          have g3 : dBE (bZ m acc) = 0 := if_neg (by rw [← hLL]; omega)
          have g4 : dBD (bB m) cW m.inp.toNat (bZ m acc) = dBn (bB m) cW m.inp.toNat (bZ m acc) := if_neg (by rw [← hLL]; omega)
          rw [g1, g2, g3, g4, gr (by omega), hke, List.take_length]; exact VLE.of_eq rfl)
      ·(try simp only [zB, reduceCtorEq] at hc21)
       have hca : (m.ot.getD s []).getD a 0 ≤ 1 := by have h9 := hc21; omega
       refine aG ?_
       refine hK19 _ ?_; clear hK19; refine ad [1, 2, 4, 5, 6, 7, 8, 33, 44] ?_; simp only [U, lkp, zE, reduceCtorEq, E, Y, D]
       refine af hP hN rfl ?_
       iterate 3 (refine ab rfl fun K0 V => ?_; simp only [zE, op1, ev, lkp, ah, ag, aB, aD, aC, aq, az, aP, reduceCtorEq, E, D, J, S, M, O, Try.td3, Mly.av, Dfa.av, List.length_map]; (repeat refine And.intro (by first | omega | assumption | exact rfl) ?_); refine V _ ?_; clear V K0; simp only [put, app, Z, ae, zE, zS, D])
       refine ai ?_
       refine ⟨_, _, ?_, aJ [1, 2, 4, 5, 6, 7, 8], a + 1, by omega, fun x hx => ?_, rfl, rfl⟩
       · omega
       · by_cases e : x = a
         · rw [e]; exact hca
         · exact hac x (by omega)
     ·(try simp only [zB, reduceCtorEq] at hc18)
      refine bm ?_
      refine hK13 _ ?_; clear hK13; refine ad [1, 2, 4, 5, 6, 7, 8, 33] ?_; simp only [U, lkp, zE, reduceCtorEq, E, Y, D]
      refine af hP hN rfl ?_
      iterate 3 (refine ab rfl fun K0 V => ?_; simp only [zE, op1, ev, lkp, ah, ag, aB, aD, aC, aq, az, aP, reduceCtorEq, E, D, J, S, M, O, Try.td3, Mly.av, Dfa.av, List.length_map]; (repeat refine And.intro (by first | omega | assumption | exact rfl) ?_); refine V _ ?_; clear V K0; simp only [put, app, Z, ae, zE, zS, D])
      refine ai ?_
      refine ⟨_, _, ?_, aJ [1, 2, 4, 5, 6, 7], s + 1, by omega, fun q x hq hx => ?_, rfl, rfl⟩
      · omega
      · by_cases e : q = s
        · rw [e]; exact hac x (by omega)
        · exact hsc q x (by omega) hx
   ·(try simp only [zB, reduceCtorEq] at hc12)
    refine bm ?_
    refine hK7 _ ?_; clear hK7; refine ad [1, 2, 4, 5, 6, 7, 27] ?_; simp only [U, lkp, zE, reduceCtorEq, E, Y, D]
    refine aa fun K23 hK23 => ?_
    have hbg : ¬ dn m = true := oZ hm fun q a hq ha => hsc q a (by omega) ha
    refine af hP hN rfl ?_
    iterate 3 (refine ab rfl fun K0 V => ?_; simp only [zE, op1, ev, lkp, ah, ag, ao, ay, Nat.mul_one, aw, ax, acs, Ty.dflt, zG, ak, bH, b0, aO, am, reduceCtorEq, E, D, J, S, M, O, Try.fl93, Try.st58, Try.st93, Try.td1, Try.td3, Try.td58, Try.td93, Mly.av, Dfa.av, List.length_map]; (repeat refine And.intro (by first | omega | assumption | exact rfl) ?_); (first | refine V _ ?_ | refine Or.inl (V _ ?_)); clear V K0; simp only [put, app, Z, ae, zE, zS, D])
    (refine ab rfl fun K0 V => ?_; simp only [zE, op1, ev, lkp, ah, ag, bb, b0, bQ, rep, aI, aO, am, Ty.size, reduceCtorEq, E, D, J, S, M, O, Try.el89, Try.td1, Try.td89, Mly.av, Dfa.av, List.length_map]; (repeat refine And.intro (by first | omega | assumption | exact rfl) ?_); refine Or.inr (Or.inl (V _ ?_)); clear V K0; simp only [put, app, Z, ae, zE, zS, D])
    (refine ab rfl fun K0 V => ?_; simp only [zE, op1, ev, lkp, ah, ag, ev, reduceCtorEq, E, D, J, S, M, O, Try.el89, Try.td89, Mly.av, Dfa.av, List.length_map]; refine V _ ?_; clear V K0; simp only [put, app, Z, ae, zE, zS, D])
    refine ai ?_
    refine hK23 _ ?_; clear hK23; refine ad [1, 2, 4, 5, 6, 7, 9, 27] ?_; simp only [U, lkp, zE, reduceCtorEq, E, Y, D]
    refine aa fun K24 hK24 => ?_
    refine aa fun K25 hK25 => ?_
    refine af hP hN rfl ?_
    (refine ab rfl fun K0 V => ?_; simp only [zE, op1, ev, lkp, ah, ag, ev, reduceCtorEq, E, D, J, S, M, O, Try.td4, Mly.av, Dfa.av, List.length_map]; refine V _ ?_; clear V K0; simp only [put, app, Z, ae, zE, zS, D])
    refine ai ?_
    refine hK25 _ ?_; clear hK25; refine ad [1, 2, 4, 5, 6, 7, 9, 27, 50] ?_; simp only [U, lkp, zE, reduceCtorEq, E, Y, D]
    refine aA (by simp only [ev, U, lkp, zE, reduceCtorEq, E, Y, D]; exact rfl) (fun hc26 => ?_) (fun hc26 => ?_)
    ·(try simp only [zB, reduceCtorEq] at hc26)
     have hbi : bI1 acc = 1 := by have h9 := hc26; rw [h9]; rfl
     refine af hP hN rfl ?_
     iterate 4 (refine ab rfl fun K0 V => ?_; simp only [zE, op1, ev, lkp, ah, ag, aK, zG, Ty.dflt, Ty.size, Nat.mul_one, ne_eq, not_false_eq_true, Int.natCast_one, Int.mul_one, ao, aZ, am, aO, aI, acs, reduceCtorEq, E, D, J, S, M, O, Try.el89, Try.fl93, Try.st93, Try.td1, Try.td3, Try.td89, Try.td93, Mly.av, Dfa.av, List.length_map]; (repeat refine And.intro (by first | omega | assumption | exact rfl) ?_); refine V _ ?_; clear V K0; simp only [put, app, Z, ae, zE, zS, D])
     refine ai ?_
     refine hK24 _ ?_; clear hK24; refine ad [1, 2, 4, 5, 6, 7, 9, 27, 50] ?_; simp only [U, lkp, zE, reduceCtorEq, E, Y, D]
     refine aa fun K27 hK27 => ?_
     refine af hP hN rfl ?_
     iterate 5 (refine ab rfl fun K0 V => ?_; simp only [zE, op1, ev, lkp, ah, ag, ao, ay, Nat.mul_one, aw, ax, acs, Ty.dflt, zG, ak, bH, b0, aO, am, bE, aZ, aI, Ty.size, reduceCtorEq, E, D, J, S, M, O, Try.st25, Try.st58, Try.td25, Try.td3, Try.td58, Mly.av, Dfa.av, List.length_map]; (repeat refine And.intro (by first | omega | assumption | exact rfl) ?_); (first | refine V _ ?_ | refine Or.inl (V _ ?_)); clear V K0; simp only [put, app, Z, ae, zE, zS, D])
     refine ai ?_
     refine hK27 _ ?_; clear hK27; refine ad [1, 2, 4, 5, 6, 7, 9, 10, 27, 50] ?_; simp only [U, lkp, zE, reduceCtorEq, E, Y, D]
     refine aa fun K28 hK28 => ?_
     refine aa fun K29 hK29 => ?_
     refine af hP hN rfl ?_
     (refine ab rfl fun K0 V => ?_; simp only [zE, op1, ev, lkp, ah, ag, ev, reduceCtorEq, E, D, J, S, M, O, Try.td3, Mly.av, Dfa.av, List.length_map]; refine V _ ?_; clear V K0; simp only [put, app, Z, ae, zE, zS, D])
     refine ai ?_
     refine hK29 _ ?_; clear hK29; refine ad [1, 2, 4, 5, 6, 7, 9, 10, 11, 27, 50] ?_; simp only [U, lkp, zE, reduceCtorEq, E, Y, D]
     refine aN ?_
     refine cu 3 2 (.list (.int .i64)) 26 (by decide) rfl rfl ?_; simp only [zS, List.length_cons, List.length_nil, List.cons_append, List.nil_append, Nat.zero_add, D]
     refine cu 3 3 (.bool) 4 (by decide) rfl rfl ?_; simp only [zS, List.length_cons, List.length_nil, List.cons_append, List.nil_append, Nat.zero_add, D]
     refine bo (fun n30 s30 => ∃ (k : Nat) (l : List W3) (v : Nat) (u : Nat), (DW m.nx.length 2 l) ∧ (dm (bB m) m.inp.toNat (m.nx.length * 2 + 1 - k) k l = (bZ m acc)) ∧ (k ≤ l.length) ∧ n30 = m.nx.length * 2 + 1 - k ∧ s30 = { env := [(2, .one (.ptr 0 0 0 0)), (4, .one (.ptr 1 0 0 0)), (5, .one (.int .i64 0)), (9, .one (.row 2 v)), (10, .one (.ptr 3 0 0 0)), (11, .one (.int .i64 (k : Int)))], L := [.vars 58 [.int .i64 m.inp, .int .i64 m.st, .list (.list (.int .i64)) m.nx, .list (.list (.int .i64)) m.ot], .vars 25 [.int .i64 0, .int .i64 0, .nils, .nils], .row (.pair (.int .i64) (.pair (.int .i64) .unit)) 93 v (List.map dG (l.map Prod.fst)), .vars 25 [.int .i64 m.inp, .int .i64 0, .row 4 u, .row 5 u], .row (.list (.int .i64)) 26 u ((List.range k).map fun i => dRw (bB m) m.inp.toNat (bZ m acc) i m.inp.toNat), .row .bool 4 u (((bZ m acc).take k).map fun e => cW e.1)] }) ?_ ?_
     ·exact ⟨_, _, aJ [2, 4, 5, 9, 10, 11], 0, [((m.st, bI1 acc), [])], 0, 0, je (j9 hm acc), rfl, by simp, rfl, by rw [hbi]; rfl⟩
     ·rintro n30 s30 ⟨k, l, v, u, hdw, hrun, hk, rfl, rfl⟩
      refine aa fun K31 hK31 => ?_
      refine aa fun K32 hK32 => ?_
      refine af hP hN rfl ?_
      iterate 4 (refine ab rfl fun K0 V => ?_; simp only [zE, op1, ev, lkp, ah, ag, aE, bj, ba, aU, aV, bg, Nat.div_one, aM, aX, Ty.size, aI, dite_true, aB, aD, aC, aq, az, aP, reduceCtorEq, E, D, J, S, M, O, Try.el89, Try.td3, Try.td4, Try.td89, Mly.av, Dfa.av, List.length_map]; (repeat refine And.intro (by first | omega | assumption | exact rfl) ?_); (first | refine V _ ?_ | refine Or.inl (V _ ?_)); clear V K0; simp only [put, app, Z, ae, zE, zS, D])
      refine ai ?_
      refine hK32 _ ?_; clear hK32; refine ad [2, 4, 5, 9, 10, 11, 60] ?_; simp only [U, lkp, zE, reduceCtorEq, E, Y, D]
      refine aA (by simp only [ev, U, lkp, zE, reduceCtorEq, E, Y, D]; exact rfl) (fun hc33 => ?_) (fun hc33 => ?_)
      ·(try simp only [zB, reduceCtorEq] at hc33)
       refine aG ?_
       refine hK31 _ ?_; clear hK31; refine ad [2, 4, 5, 9, 10, 11, 60] ?_; simp only [U, lkp, zE, reduceCtorEq, E, Y, D]
       refine aa fun K34 hK34 => ?_
       refine aN ?_
       refine aa fun K35 hK35 => ?_
       refine af hP hN rfl ?_
       (refine ab rfl fun K0 V => ?_; simp only [zE, op1, ev, lkp, ah, ag, ev, reduceCtorEq, E, D, J, S, M, O, Try.el26, Try.td26, Mly.av, Dfa.av, List.length_map]; refine V _ ?_; clear V K0; simp only [put, app, Z, ae, zE, zS, D])
       refine ai ?_
       refine hK35 _ ?_; clear hK35; refine ad [2, 4, 5, 9, 10, 11, 12, 60] ?_; simp only [U, lkp, zE, reduceCtorEq, E, Y, D]
       refine aa fun K36 hK36 => ?_
       refine aa fun K37 hK37 => ?_
       refine af hP hN rfl ?_
       (refine ab rfl fun K0 V => ?_; simp only [zE, op1, ev, lkp, ah, ag, ev, reduceCtorEq, E, D, J, S, M, O, Try.td3, Mly.av, Dfa.av, List.length_map]; refine V _ ?_; clear V K0; simp only [put, app, Z, ae, zE, zS, D])
       refine ai ?_
       refine hK37 _ ?_; clear hK37; refine ad [2, 4, 5, 9, 10, 11, 12, 13, 60] ?_; simp only [U, lkp, zE, reduceCtorEq, E, Y, D]
       refine aN ?_
       refine eW 12 (.int .i64) 3 (by decide) rfl ?_; simp only [List.length_cons, List.length_nil, List.cons_append, List.nil_append, Nat.zero_add, D]
       refine bo (fun n38 s38 => ∃ (x : Nat) (w : Nat) (z : Nat), ((x : Int) ≤ m.inp) ∧ (DW m.nx.length 2 (bI (bB m) (l.getD k w30) l x)) ∧ n38 = m.inp.toNat - x ∧ s38 = { env := [(2, .one (.ptr 0 0 0 0)), (4, .one (.ptr 1 0 0 0)), (5, .one (.int .i64 0)), (9, .one (.row 2 w)), (10, .one (.ptr 3 0 0 0)), (11, .one (.int .i64 (k : Int))), (12, .one (.row 6 z)), (13, .one (.int .i64 (x : Int)))], L := [.vars 58 [.int .i64 m.inp, .int .i64 m.st, .list (.list (.int .i64)) m.nx, .list (.list (.int .i64)) m.ot], .vars 25 [.int .i64 0, .int .i64 0, .nils, .nils], .row (.pair (.int .i64) (.pair (.int .i64) .unit)) 93 w (List.map dG ((bI (bB m) (l.getD k w30) l x).map Prod.fst)), .vars 25 [.int .i64 m.inp, .int .i64 0, .row 4 u, .row 5 u], .row (.list (.int .i64)) 26 u ((List.range k).map fun i => dRw (bB m) m.inp.toNat (bZ m acc) i m.inp.toNat), .row .bool 4 u (((bZ m acc).take k).map fun e => cW e.1), .row (.int .i64) 3 z (dRw (bB m) m.inp.toNat (bZ m acc) k x)] }) ?_ ?_
       ·exact ⟨_, _, aJ [2, 4, 5, 9, 10, 11, 12, 13], 0, v, 0, by omega, hdw, rfl, rfl⟩
       ·rintro n38 s38 ⟨x, w, z, hx, hdc, rfl, rfl⟩
        refine aa fun K39 hK39 => ?_
        refine aa fun K40 hK40 => ?_
        refine af hP hN rfl ?_
        iterate 4 (refine ab rfl fun K0 V => ?_; simp only [zE, op1, ev, lkp, ah, ag, ao, ay, Nat.mul_one, aw, ax, acs, Ty.dflt, zG, ak, aB, aD, aC, aq, az, aP, reduceCtorEq, E, D, J, S, M, O, Try.st58, Try.td3, Try.td4, Try.td58, Mly.av, Dfa.av, List.length_map]; (repeat refine And.intro (by first | omega | assumption | exact rfl) ?_); refine V _ ?_; clear V K0; simp only [put, app, Z, ae, zE, zS, D])
        refine ai ?_
        refine hK40 _ ?_; clear hK40; refine ad [2, 4, 5, 9, 10, 11, 12, 13, 66] ?_; simp only [U, lkp, zE, reduceCtorEq, E, Y, D]
        refine aA (by simp only [ev, U, lkp, zE, reduceCtorEq, E, Y, D]; exact rfl) (fun hc41 => ?_) (fun hc41 => ?_)
        ·(try simp only [zB, reduceCtorEq] at hc41)
         refine aG ?_
         refine hK39 _ ?_; clear hK39; refine ad [2, 4, 5, 9, 10, 11, 12, 13, 66] ?_; simp only [U, lkp, zE, reduceCtorEq, E, Y, D]
         refine aa fun K42 hK42 => ?_
         refine aN ?_
         refine aa fun K43 hK43 => ?_
         refine eB ?_; simp only [List.cons_append, List.append_assoc, List.nil_append]
         have hkl : k < l.length := by omega
         have hge := dV (bB m) (l.getD k w30) l x
         have hgi : ∀ d, (List.map dG ((bI (bB m) (l.getD k w30) l x).map Prod.fst)).getD k d = (((l.getD k w30).1.1, ((l.getD k w30).1.2, ()))) := fun d => by rw [gq (by omega), eG _ _ x hkl]
         have hre := hdw.rg _ (d4 hkl)
         obtain ⟨⟨hr1, hr2⟩, hr3⟩ := id hre
         have hra := hm.rl (l.getD k w30).1.1.toNat (by omega); have hrb := hm.ql (l.getD k w30).1.1.toNat (by omega); have hcl := hdc.le; have hdl := hdw.le
         refine bP hP hN Try.mixed rfl ?_
         iterate 25 (refine ab rfl fun K0 V => ?_; simp only [zE, op1, ev, lkp, ah, ag, ao, ay, Nat.mul_one, aw, ax, acs, Ty.dflt, zG, ak, aK, Ty.size, ne_eq, not_false_eq_true, Int.natCast_one, Int.mul_one, bH, b0, aO, am, reduceCtorEq, E, D, J, S, M, O, Try.el22, Try.el26, Try.el89, Try.fl93, Try.st58, Try.st93, Try.td2, Try.td22, Try.td26, Try.td3, Try.td58, Try.td89, Try.td93, Mly.av, Dfa.av, List.length_map, hgi]; (repeat refine And.intro (by first | omega | assumption | exact rfl) ?_); (first | refine V _ ?_ | refine Or.inl (V _ ?_)); clear V K0; simp only [put, app, Z, ae, zE, zS, D])
         (refine ab rfl fun K0 V => ?_; simp only [zE, op1, ev, lkp, ah, ag, bE, reduceCtorEq, E, D, J, S, M, O, Try.fl93, Try.st93, Try.td93, Mly.av, Dfa.av, List.length_map, hgi]; refine Or.inr (Or.inl ⟨7, ?_, (.pair (.int .i64) (.pair (.int .i64) .unit)), (0, (0, ())), ?_⟩); (exact rfl); (repeat refine And.intro (by first | rfl | decide) ?_); refine V _ ?_; clear V K0; simp only [put, app, Z, ae, zE, zS, D])
         (refine ab rfl fun K0 V => ?_; simp only [zE, op1, ev, lkp, ah, ag, aZ, Nat.mul_one, am, aO, aI, acs, Ty.size, Ty.dflt, zG, reduceCtorEq, E, D, J, S, M, O, Try.fl93, Try.st93, Try.td93, Mly.av, Dfa.av, List.length_map, hgi]; (repeat refine And.intro (by first | omega | assumption | exact rfl) ?_); refine V _ ?_; clear V K0; simp only [put, app, Z, ae, zE, zS, D])
         refine ai ?_
         refine ⟨by kernel_rfl, ?_⟩
         refine hK43 _ ?_; clear hK43; refine ad [2, 4, 5, 9, 10, 11, 12, 13, 14, 66] ?_; simp only [U, lkp, zE, reduceCtorEq, E, Y, D]
         refine aa fun K44 hK44 => ?_
         refine af hP hN rfl ?_
         iterate 2 (refine ab rfl fun K0 V => ?_; simp only [zE, op1, ev, lkp, ah, ag, ay, Nat.mul_one, aw, ax, acs, Ty.dflt, zG, ak, reduceCtorEq, E, D, J, S, M, O, Try.el89, Try.fl93, Try.st93, Try.td89, Try.td93, Mly.av, Dfa.av, List.length_map]; (repeat refine And.intro (by first | omega | assumption | exact rfl) ?_); refine V _ ?_; clear V K0; simp only [put, app, Z, ae, zE, zS, D])
         refine ab rfl fun K0 V => ?_
         refine aT (h := gb (args := [.one (.row 2 w), .agg [.int .i64 (bB m (l.getD k w30).1 x).1, .int .i64 (bB m (l.getD k w30).1 x).2]]) (by simp [fzV, fz1, fzC]) rfl (kB ((bI (bB m) (l.getD k w30) l x).map Prod.fst) (bB m (l.getD k w30).1 x) (by rw [List.length_map]; omega)) rfl) rfl rfl (by first | exact rfl | (simp only [ev, U, lkp, zE, reduceCtorEq, E, Y, D]; exact rfl)) (by simp only [zE, zG, op1, ev, lkp, ah, ag, am, acs, be, mv1, mvC, Ty.dflt, reduceCtorEq, E, D, J, S, M, O, Mly.av, Dfa.av, List.length_map, List.getD_cons_zero, bB, Mly.nxt, Mly.out, Int.toNat_natCast]) ?_
         refine V _ ?_; clear V K0; simp only [put, app, Z, ae, zE, zS, D]
         (refine ab rfl fun K0 V => ?_; simp only [zE, op1, ev, lkp, ah, ag, ev, reduceCtorEq, E, D, J, S, M, O, Try.td3, Mly.av, Dfa.av, List.length_map]; refine V _ ?_; clear V K0; simp only [put, app, Z, ae, zE, zS, D])
         refine ai ?_
         refine hK44 _ ?_; clear hK44; refine ad [2, 4, 5, 9, 10, 11, 12, 13, 14, 15, 66] ?_; simp only [U, lkp, zE, reduceCtorEq, E, Y, D]
         refine aa fun K45 hK45 => ?_
         refine aa fun K46 hK46 => ?_
         refine af hP hN rfl ?_
         iterate 4 (refine ab rfl fun K0 V => ?_; simp only [zE, op1, ev, lkp, ah, ag, aE, bj, ba, aU, aV, bg, Nat.div_one, aM, aX, Ty.size, aI, dite_true, aB, aD, aC, aq, az, aP, reduceCtorEq, E, D, J, S, M, O, Try.el89, Try.td3, Try.td4, Try.td89, Mly.av, Dfa.av, List.length_map]; (repeat refine And.intro (by first | omega | assumption | exact rfl) ?_); (first | refine V _ ?_ | refine Or.inl (V _ ?_)); clear V K0; simp only [put, app, Z, ae, zE, zS, D])
         refine ai ?_
         refine hK46 _ ?_; clear hK46; refine ad [2, 4, 5, 9, 10, 11, 12, 13, 14, 15, 66, 100] ?_; simp only [U, lkp, zE, reduceCtorEq, E, Y, D]
         refine aA (by simp only [ev, U, lkp, zE, reduceCtorEq, E, Y, D]; exact rfl) (fun hc47 => ?_) (fun hc47 => ?_)
         ·(try simp only [zB, reduceCtorEq] at hc47)
          have hnin : (bB m (l.getD k w30).1 x) ∉ (bI (bB m) (l.getD k w30) l x).map Prod.fst := fun hin => by have h8 := fE hin; rw [List.length_map] at h8; have h9 := hc47; omega
          refine af hP hN rfl ?_
          iterate 5 (refine ab rfl fun K0 V => ?_; simp only [zE, op1, ev, lkp, ah, ag, ay, Nat.mul_one, aw, ax, acs, Ty.dflt, zG, ak, bb, b0, bQ, rep, aI, aO, am, Ty.size, aE, bj, ba, aU, aV, bg, Nat.div_one, aM, aX, dite_true, reduceCtorEq, E, D, J, S, M, O, Try.el89, Try.fl93, Try.st93, Try.td1, Try.td89, Try.td93, Mly.av, Dfa.av, List.length_map]; (repeat refine And.intro (by first | omega | assumption | exact rfl) ?_); (first | refine V _ ?_ | refine Or.inl (V _ ?_)); clear V K0; simp only [put, app, Z, ae, zE, zS, D])
          refine ai ?_
          refine hK45 _ ?_; clear hK45; refine ad [2, 4, 5, 9, 10, 11, 12, 13, 14, 15, 66, 100] ?_; simp only [U, lkp, zE, reduceCtorEq, E, Y, D]
          refine af hP hN rfl ?_
          iterate 5 (refine ab rfl fun K0 V => ?_; simp only [zE, op1, ev, lkp, ah, ag, bb, b0, bQ, rep, aI, aO, am, Ty.size, aE, bj, ba, aU, aV, bg, Nat.div_one, aM, aX, dite_true, reduceCtorEq, E, D, J, S, M, O, Try.el26, Try.td1, Try.td26, Try.td3, Mly.av, Dfa.av, List.length_map, bW]; (repeat refine And.intro (by first | omega | assumption | exact rfl) ?_); (first | refine V _ ?_ | refine Or.inl (V _ ?_)); clear V K0; simp only [put, app, Z, ae, zE, zS, D])
          refine ai ?_
          refine hK42 _ ?_; clear hK42; refine ad [2, 4, 5, 9, 10, 11, 12, 13, 14, 15, 66, 100] ?_; simp only [U, lkp, zE, reduceCtorEq, E, Y, D]
          refine ad [2, 4, 5, 9, 10, 11, 12, 13] ?_; simp only [U, lkp, zE, reduceCtorEq, E]
          refine dy (L1 := [_, _, _, _, _, _, _]) rfl hB rfl rfl ?_
          refine af hP hN rfl ?_
          iterate 3 (refine ab rfl fun K0 V => ?_; simp only [zE, op1, ev, lkp, ah, ag, aB, aD, aC, aq, az, aP, reduceCtorEq, E, D, J, S, M, O, Try.td3, Mly.av, Dfa.av, List.length_map]; (repeat refine And.intro (by first | omega | assumption | exact rfl) ?_); refine V _ ?_; clear V K0; simp only [put, app, Z, ae, zE, zS, D])
          refine ai ?_
          have hkl : k < l.length := by omega
          have hdl := hdw.le
          have hat9 : (bZ m acc).getD k w30 = l.getD k w30 := by rw [← hrun]; exact gz hkl
          have hps := ia (A := bB m) (n := m.inp.toNat) (f := m.nx.length * 2 - k) (x := x) hkl (by omega)
          rw [show m.nx.length * 2 - k + 1 = m.nx.length * 2 + 1 - k by omega, hrun] at hps
          first
          | (have hs9 : bI (bB m) (l.getD k w30) l (x + 1) = (bI (bB m) (l.getD k w30) l x) := by rw [bV, dP hin]
             refine ⟨_, _, ?_, aJ [2, 4, 5, 9, 10, 11, 12, 13], x + 1, w, z + 1, by omega, by rw [hs9]; exact hdc, rfl, ?_⟩
             · omega
             · rw [hs9, dg, hat9, hps]; rfl)
          | (have hs9 : bI (bB m) (l.getD k w30) l (x + 1) = (bI (bB m) (l.getD k w30) l x) ++ [((bB m (l.getD k w30).1 x), (l.getD k w30).2 ++ [(x : Int)])] := by rw [bV, d8 hnin]
             have hm9 : (l.getD k w30) ∈ (bI (bB m) (l.getD k w30) l x) := by obtain ⟨k8, h8⟩ := cV (bB m) (l.getD k w30) l x; rw [h8]; exact List.mem_append.2 (.inl (d4 hkl))
             refine ⟨_, _, ?_, aJ [2, 4, 5, 9, 10, 11, 12, 13], x + 1, w + 1, z + 1, by omega, by rw [bV]; exact hdc.step (eY hm hbg (n := m.inp.toNat) (by omega)) hm9 (by omega), rfl, ?_⟩
             · omega
             · rw [hs9, dg, hat9, hps, List.map_append, List.map_append]; rfl)
         ·(try simp only [zB, reduceCtorEq] at hc47)
          have hin : (bB m (l.getD k w30).1 x) ∈ (bI (bB m) (l.getD k w30) l x).map Prod.fst := by
            by_cases hin : (bB m (l.getD k w30).1 x) ∈ (bI (bB m) (l.getD k w30) l x).map Prod.fst
            · exact hin
            · exfalso; have h8 := eX hin; rw [List.length_map] at h8; have h9 := hc47; omega
          refine aG ?_
          refine hK45 _ ?_; clear hK45; refine ad [2, 4, 5, 9, 10, 11, 12, 13, 14, 15, 66, 100] ?_; simp only [U, lkp, zE, reduceCtorEq, E, Y, D]
          refine af hP hN rfl ?_
          iterate 5 (refine ab rfl fun K0 V => ?_; simp only [zE, op1, ev, lkp, ah, ag, bb, b0, bQ, rep, aI, aO, am, Ty.size, aE, bj, ba, aU, aV, bg, Nat.div_one, aM, aX, dite_true, reduceCtorEq, E, D, J, S, M, O, Try.el26, Try.td1, Try.td26, Try.td3, Mly.av, Dfa.av, List.length_map, bW]; (repeat refine And.intro (by first | omega | assumption | exact rfl) ?_); (first | refine V _ ?_ | refine Or.inl (V _ ?_)); clear V K0; simp only [put, app, Z, ae, zE, zS, D])
          refine ai ?_
          refine hK42 _ ?_; clear hK42; refine ad [2, 4, 5, 9, 10, 11, 12, 13, 14, 15, 66, 100] ?_; simp only [U, lkp, zE, reduceCtorEq, E, Y, D]
          refine ad [2, 4, 5, 9, 10, 11, 12, 13] ?_; simp only [U, lkp, zE, reduceCtorEq, E]
          refine dy (L1 := [_, _, _, _, _, _, _]) rfl hB rfl rfl ?_
          refine af hP hN rfl ?_
          iterate 3 (refine ab rfl fun K0 V => ?_; simp only [zE, op1, ev, lkp, ah, ag, aB, aD, aC, aq, az, aP, reduceCtorEq, E, D, J, S, M, O, Try.td3, Mly.av, Dfa.av, List.length_map]; (repeat refine And.intro (by first | omega | assumption | exact rfl) ?_); refine V _ ?_; clear V K0; simp only [put, app, Z, ae, zE, zS, D])
          refine ai ?_
          have hkl : k < l.length := by omega
          have hdl := hdw.le
          have hat9 : (bZ m acc).getD k w30 = l.getD k w30 := by rw [← hrun]; exact gz hkl
          have hps := ia (A := bB m) (n := m.inp.toNat) (f := m.nx.length * 2 - k) (x := x) hkl (by omega)
          rw [show m.nx.length * 2 - k + 1 = m.nx.length * 2 + 1 - k by omega, hrun] at hps
          first
          | (have hs9 : bI (bB m) (l.getD k w30) l (x + 1) = (bI (bB m) (l.getD k w30) l x) := by rw [bV, dP hin]
             refine ⟨_, _, ?_, aJ [2, 4, 5, 9, 10, 11, 12, 13], x + 1, w, z + 1, by omega, by rw [hs9]; exact hdc, rfl, ?_⟩
             · omega
             · rw [hs9, dg, hat9, hps]; rfl)
          | (have hs9 : bI (bB m) (l.getD k w30) l (x + 1) = (bI (bB m) (l.getD k w30) l x) ++ [((bB m (l.getD k w30).1 x), (l.getD k w30).2 ++ [(x : Int)])] := by rw [bV, d8 hnin]
             have hm9 : (l.getD k w30) ∈ (bI (bB m) (l.getD k w30) l x) := by obtain ⟨k8, h8⟩ := cV (bB m) (l.getD k w30) l x; rw [h8]; exact List.mem_append.2 (.inl (d4 hkl))
             refine ⟨_, _, ?_, aJ [2, 4, 5, 9, 10, 11, 12, 13], x + 1, w + 1, z + 1, by omega, by rw [bV]; exact hdc.step (eY hm hbg (n := m.inp.toNat) (by omega)) hm9 (by omega), rfl, ?_⟩
             · omega
             · rw [hs9, dg, hat9, hps, List.map_append, List.map_append]; rfl)
        ·(try simp only [zB, reduceCtorEq] at hc41)
         refine bm ?_
         refine hK36 _ ?_; clear hK36; refine ad [2, 4, 5, 9, 10, 11, 12, 13, 66] ?_; simp only [U, lkp, zE, reduceCtorEq, E, Y, D]
         refine aa fun K48 hK48 => ?_
         refine cG 6 rfl ?_; simp only [List.map_cons, List.map_nil, zS, E, and_self, and_true, true_and, and_false, false_and, if_true, if_false, eq_self, reduceCtorEq, Nat.one_ne_zero, Nat.zero_ne_one]
         have hxn : x = m.inp.toNat := by omega
         have hdl := hdw.le; have hcl := hdc.le
         refine af hP hN rfl ?_
         iterate 7 (refine ab rfl fun K0 V => ?_; simp only [zE, op1, ev, lkp, ah, ag, ao, ay, Nat.mul_one, aw, ax, acs, Ty.dflt, zG, ak, bb, b0, bQ, rep, aI, aO, am, Ty.size, aE, bj, ba, aU, aV, bg, Nat.div_one, aM, aX, dite_true, aZ, reduceCtorEq, E, D, J, S, M, O, Try.el22, Try.el26, Try.st25, Try.td1, Try.td2, Try.td22, Try.td25, Try.td26, Mly.av, Dfa.av, List.length_map, bW, List.length_range]; (repeat refine And.intro (by first | omega | assumption | exact rfl) ?_); (first | refine V _ ?_ | refine Or.inl (V _ ?_)); clear V K0; simp only [put, app, Z, ae, zE, zS, D])
         refine ai ?_
         refine hK48 _ ?_; clear hK48; refine ad [2, 4, 5, 9, 10, 11, 12, 13, 66] ?_; simp only [U, lkp, zE, reduceCtorEq, E, Y, D]
         have hkl : k < l.length := by omega
         have hge := dV (bB m) (l.getD k w30) l x
         have hgi : ∀ d, (List.map dG ((bI (bB m) (l.getD k w30) l x).map Prod.fst)).getD k d = (((l.getD k w30).1.1, ((l.getD k w30).1.2, ()))) := fun d => by rw [gq (by omega), eG _ _ x hkl]
         refine bP hP hN Try.mixed rfl ?_
         iterate 12 (refine ab rfl fun K0 V => ?_; simp only [zE, op1, ev, lkp, ah, ag, ao, ay, Nat.mul_one, aw, ax, acs, Ty.dflt, zG, ak, aK, Ty.size, ne_eq, not_false_eq_true, Int.natCast_one, Int.mul_one, aB, aD, aC, aq, az, aP, bb, b0, bQ, rep, aI, aO, am, aE, bj, ba, aU, aV, bg, Nat.div_one, aM, aX, dite_true, aZ, reduceCtorEq, E, D, J, S, M, O, Try.el23, Try.el89, Try.fl93, Try.st25, Try.st93, Try.td1, Try.td23, Try.td25, Try.td3, Try.td4, Try.td89, Try.td93, Mly.av, Dfa.av, List.length_map, hgi, List.length_take]; (repeat refine And.intro (by first | omega | assumption | exact rfl) ?_); (first | refine V _ ?_ | refine Or.inl (V _ ?_)); clear V K0; simp only [put, app, Z, ae, zE, zS, D])
         refine ai ?_
         refine ⟨by kernel_rfl, ?_⟩
         refine hK34 _ ?_; clear hK34; refine ad [2, 4, 5, 9, 10, 11, 12, 13, 66] ?_; simp only [U, lkp, zE, reduceCtorEq, E, Y, D]
         refine cQ (n := 6) (L1 := [_, _, _, _, _, _]) rfl rfl (by rw [hB]; decide) rfl rfl ?_
         refine af hP hN rfl ?_
         iterate 3 (refine ab rfl fun K0 V => ?_; simp only [zE, op1, ev, lkp, ah, ag, aB, aD, aC, aq, az, aP, reduceCtorEq, E, D, J, S, M, O, Try.td3, Mly.av, Dfa.av, List.length_map]; (repeat refine And.intro (by first | omega | assumption | exact rfl) ?_); refine V _ ?_; clear V K0; simp only [put, app, Z, ae, zE, zS, D])
         refine ai ?_
         have hkl : k < l.length := by omega
         subst hxn
         have hge9 := dV (bB m) (l.getD k w30) l m.inp.toNat
         have hat9 : (bZ m acc).getD k w30 = l.getD k w30 := by rw [← hrun]; exact gz hkl
         have hlk9 : k < (bZ m acc).length := by have h8 := lY (bB m) m.inp.toNat (m.nx.length * 2 + 1 - k) k l; rw [hrun] at h8; omega
         refine ⟨_, _, ?_, aJ [2, 4, 5, 9, 10, 11], k + 1, bI (bB m) (l.getD k w30) l m.inp.toNat, w, u + 1, hdc, ?_, by omega, rfl, ?_⟩
         · omega
         · rw [← hrun, show m.nx.length * 2 + 1 - k = m.nx.length * 2 + 1 - (k + 1) + 1 by omega, dM _ _ _ hkl]
         · rw [fZ, da _ w30 hlk9, hat9]; rfl
      ·(try simp only [zB, reduceCtorEq] at hc33)
       refine bm ?_
       refine hK28 _ ?_; clear hK28; refine ad [2, 4, 5, 9, 10, 11, 60] ?_; simp only [U, lkp, zE, reduceCtorEq, E, Y, D]
       refine aa fun K49 hK49 => ?_
       refine aa fun K50 hK50 => ?_
       have hLL : l = (bZ m acc) := by rw [← hrun, gl _ _ _ _ (by omega)]
       have hdl := hdw.le
       refine af hP hN rfl ?_
       iterate 3 (refine ab rfl fun K0 V => ?_; simp only [zE, op1, ev, lkp, ah, ag, aE, bj, ba, aU, aV, bg, Nat.div_one, aM, aX, Ty.size, aI, dite_true, aB, aD, aC, aq, az, aP, reduceCtorEq, E, D, J, S, M, O, Try.el89, Try.td3, Try.td4, Try.td89, Mly.av, Dfa.av, List.length_map]; (repeat refine And.intro (by first | omega | assumption | exact rfl) ?_); (first | refine V _ ?_ | refine Or.inl (V _ ?_)); clear V K0; simp only [put, app, Z, ae, zE, zS, D])
       refine ai ?_
       refine hK50 _ ?_; clear hK50; refine ad [2, 4, 5, 9, 10, 11, 60, 128] ?_; simp only [U, lkp, zE, reduceCtorEq, E, Y, D]
       refine aA (by simp only [ev, U, lkp, zE, reduceCtorEq, E, Y, D]; exact rfl) (fun hc51 => ?_) (fun hc51 => ?_)
       ·(try simp only [zB, reduceCtorEq] at hc51)
        refine aa fun K52 hK52 => ?_
        refine af hP hN rfl ?_
        iterate 3 (refine ab rfl fun K0 V => ?_; simp only [zE, op1, ev, lkp, ah, ag, bH, b0, aO, am, aZ, Nat.mul_one, aI, acs, Ty.size, Ty.dflt, zG, reduceCtorEq, E, D, J, S, M, O, Try.st25, Try.td25, Try.td3, Mly.av, Dfa.av, List.length_map]; (repeat refine And.intro (by first | omega | assumption | exact rfl) ?_); (first | refine V _ ?_ | refine Or.inl (V _ ?_)); clear V K0; simp only [put, app, Z, ae, zE, zS, D])
        refine ai ?_
        refine hK52 _ ?_; clear hK52; refine ad [2, 4, 5, 9, 10, 11, 60, 128] ?_; simp only [U, lkp, zE, reduceCtorEq, E, Y, D]
        refine aH ?_
        refine ⟨by first | exact .inl rfl | exact .inr rfl, _, rfl, ?_⟩; simp only [fzV, fz1, fzC, List.map_cons, List.map_nil, U, lkp, zE, reduceCtorEq, E, Y, D, Mly.av, Dfa.av, List.length_map]
        first
        | (have g9 := gJ (acc := acc) (by assumption); obtain ⟨g1, g2⟩ := g9; rw [g1, g2]; exact br ⟨bp ⟨.refl _, .refl _, aQ rfl, aQ rfl, trivial⟩, bf (.refl _), trivial⟩)
        | (have g9 := gC (acc := acc) hv hbig; obtain ⟨g1, g2⟩ := g9; rw [g1, g2]; exact br ⟨bp ⟨.refl _, .refl _, aQ rfl, aQ rfl, trivial⟩, bf (.refl _), trivial⟩)
        | (have g9 := dh (acc := acc) hv hbg; obtain ⟨g1, g2⟩ := g9
           have g3 : dBE (bZ m acc) = 11 := if_pos (by rw [← hLL]; omega)
           have g4 : dBD (bB m) cW m.inp.toNat (bZ m acc) = cY := if_pos (by rw [← hLL]; omega)
           rw [g1, g2, g3, g4]; exact br ⟨bp ⟨.refl _, .refl _, aQ rfl, aQ rfl, trivial⟩, bf (.refl _), trivial⟩)
        | (have g9 := dh (acc := acc) hv hbg; obtain ⟨g1, g2⟩ := g9
           have hke : k = (bZ m acc).length := by rw [← hLL]; omega
           have g3 : dBE (bZ m acc) = 0 := if_neg (by rw [← hLL]; omega)
           have g4 : dBD (bB m) cW m.inp.toNat (bZ m acc) = dBn (bB m) cW m.inp.toNat (bZ m acc) := if_neg (by rw [← hLL]; omega)
           rw [g1, g2, g3, g4, gr (by omega), hke, List.take_length]; exact VLE.of_eq rfl)
       ·(try simp only [zB, reduceCtorEq] at hc51)
        refine aG ?_
        refine hK49 _ ?_; clear hK49; refine ad [2, 4, 5, 9, 10, 11, 60, 128] ?_; simp only [U, lkp, zE, reduceCtorEq, E, Y, D]
        refine aa fun K53 hK53 => ?_
        refine cm 4 3 rfl rfl ?_; simp only [List.map_cons, List.map_nil, frC, zS, E, and_self, and_true, true_and, and_false, false_and, if_true, if_false, eq_self, reduceCtorEq, Nat.one_ne_zero, Nat.zero_ne_one]
        refine cm 5 3 rfl rfl ?_; simp only [List.map_cons, List.map_nil, frC, zS, E, and_self, and_true, true_and, and_false, false_and, if_true, if_false, eq_self, reduceCtorEq, Nat.one_ne_zero, Nat.zero_ne_one]
        refine af hP hN rfl ?_
        iterate 3 (refine ab rfl fun K0 V => ?_; simp only [zE, op1, ev, lkp, ah, ag, ay, Nat.mul_one, aw, ax, acs, Ty.dflt, zG, ak, aZ, am, aO, aI, Ty.size, reduceCtorEq, E, D, J, S, M, O, Try.st25, Try.td25, Try.td3, Mly.av, Dfa.av, List.length_map]; (repeat refine And.intro (by first | omega | assumption | exact rfl) ?_); refine V _ ?_; clear V K0; simp only [put, app, Z, ae, zE, zS, D])
        refine ai ?_
        refine hK53 _ ?_; clear hK53; refine ad [2, 4, 5, 9, 10, 11, 60, 128] ?_; simp only [U, lkp, zE, reduceCtorEq, E, Y, D]
        refine aH ?_
        refine ⟨by first | exact .inl rfl | exact .inr rfl, _, rfl, ?_⟩; simp only [fzV, fz1, fzC, List.map_cons, List.map_nil, U, lkp, zE, reduceCtorEq, E, Y, D, Mly.av, Dfa.av, List.length_map]
        first
        | (have g9 := gJ (acc := acc) (by assumption); obtain ⟨g1, g2⟩ := g9; rw [g1, g2]; exact br ⟨bp ⟨.refl _, .refl _, aQ rfl, aQ rfl, trivial⟩, bf (.refl _), trivial⟩)
        | (have g9 := gC (acc := acc) hv hbig; obtain ⟨g1, g2⟩ := g9; rw [g1, g2]; exact br ⟨bp ⟨.refl _, .refl _, aQ rfl, aQ rfl, trivial⟩, bf (.refl _), trivial⟩)
        | (have g9 := dh (acc := acc) hv hbg; obtain ⟨g1, g2⟩ := g9
           have g3 : dBE (bZ m acc) = 11 := if_pos (by rw [← hLL]; omega)
           have g4 : dBD (bB m) cW m.inp.toNat (bZ m acc) = cY := if_pos (by rw [← hLL]; omega)
           rw [g1, g2, g3, g4]; exact br ⟨bp ⟨.refl _, .refl _, aQ rfl, aQ rfl, trivial⟩, bf (.refl _), trivial⟩)
        | (have g9 := dh (acc := acc) hv hbg; obtain ⟨g1, g2⟩ := g9
           have hke : k = (bZ m acc).length := by rw [← hLL]; omega
           have g3 : dBE (bZ m acc) = 0 := if_neg (by rw [← hLL]; omega)
           have g4 : dBD (bB m) cW m.inp.toNat (bZ m acc) = dBn (bB m) cW m.inp.toNat (bZ m acc) := if_neg (by rw [← hLL]; omega)
           rw [g1, g2, g3, g4, gr (by omega), hke, List.take_length]; exact VLE.of_eq rfl)
    ·(try simp only [zB, reduceCtorEq] at hc26)
     have hbi : bI1 acc = 0 := by have h9 := hc26; rw [h9]; rfl
     refine aG ?_
     refine hK24 _ ?_; clear hK24; refine ad [1, 2, 4, 5, 6, 7, 9, 27, 50] ?_; simp only [U, lkp, zE, reduceCtorEq, E, Y, D]
     refine aa fun K54 hK54 => ?_
     refine af hP hN rfl ?_
     iterate 5 (refine ab rfl fun K0 V => ?_; simp only [zE, op1, ev, lkp, ah, ag, ao, ay, Nat.mul_one, aw, ax, acs, Ty.dflt, zG, ak, bH, b0, aO, am, bE, aZ, aI, Ty.size, reduceCtorEq, E, D, J, S, M, O, Try.st25, Try.st58, Try.td25, Try.td3, Try.td58, Mly.av, Dfa.av, List.length_map]; (repeat refine And.intro (by first | omega | assumption | exact rfl) ?_); (first | refine V _ ?_ | refine Or.inl (V _ ?_)); clear V K0; simp only [put, app, Z, ae, zE, zS, D])
     refine ai ?_
     refine hK54 _ ?_; clear hK54; refine ad [1, 2, 4, 5, 6, 7, 9, 10, 27, 50] ?_; simp only [U, lkp, zE, reduceCtorEq, E, Y, D]
     refine aa fun K55 hK55 => ?_
     refine aa fun K56 hK56 => ?_
     refine af hP hN rfl ?_
     (refine ab rfl fun K0 V => ?_; simp only [zE, op1, ev, lkp, ah, ag, ev, reduceCtorEq, E, D, J, S, M, O, Try.td3, Mly.av, Dfa.av, List.length_map]; refine V _ ?_; clear V K0; simp only [put, app, Z, ae, zE, zS, D])
     refine ai ?_
     refine hK56 _ ?_; clear hK56; refine ad [1, 2, 4, 5, 6, 7, 9, 10, 11, 27, 50] ?_; simp only [U, lkp, zE, reduceCtorEq, E, Y, D]
     refine aN ?_
     refine cu 3 2 (.list (.int .i64)) 26 (by decide) rfl rfl ?_; simp only [zS, List.length_cons, List.length_nil, List.cons_append, List.nil_append, Nat.zero_add, D]
     refine cu 3 3 (.bool) 4 (by decide) rfl rfl ?_; simp only [zS, List.length_cons, List.length_nil, List.cons_append, List.nil_append, Nat.zero_add, D]
     refine bo (fun n57 s57 => ∃ (k : Nat) (l : List W3) (v : Nat) (u : Nat), (DW m.nx.length 2 l) ∧ (dm (bB m) m.inp.toNat (m.nx.length * 2 + 1 - k) k l = (bZ m acc)) ∧ (k ≤ l.length) ∧ n57 = m.nx.length * 2 + 1 - k ∧ s57 = { env := [(2, .one (.ptr 0 0 0 0)), (4, .one (.ptr 1 0 0 0)), (5, .one (.int .i64 0)), (9, .one (.row 2 v)), (10, .one (.ptr 3 0 0 0)), (11, .one (.int .i64 (k : Int)))], L := [.vars 58 [.int .i64 m.inp, .int .i64 m.st, .list (.list (.int .i64)) m.nx, .list (.list (.int .i64)) m.ot], .vars 25 [.int .i64 0, .int .i64 0, .nils, .nils], .row (.pair (.int .i64) (.pair (.int .i64) .unit)) 93 v (List.map dG (l.map Prod.fst)), .vars 25 [.int .i64 m.inp, .int .i64 0, .row 4 u, .row 5 u], .row (.list (.int .i64)) 26 u ((List.range k).map fun i => dRw (bB m) m.inp.toNat (bZ m acc) i m.inp.toNat), .row .bool 4 u (((bZ m acc).take k).map fun e => cW e.1)] }) ?_ ?_
     ·exact ⟨_, _, aJ [2, 4, 5, 9, 10, 11], 0, [((m.st, bI1 acc), [])], 0, 0, je (j9 hm acc), rfl, by simp, rfl, by rw [hbi]; rfl⟩
     ·rintro n57 s57 ⟨k, l, v, u, hdw, hrun, hk, rfl, rfl⟩
      refine aa fun K58 hK58 => ?_
      refine aa fun K59 hK59 => ?_
      refine af hP hN rfl ?_
      iterate 4 (refine ab rfl fun K0 V => ?_; simp only [zE, op1, ev, lkp, ah, ag, aE, bj, ba, aU, aV, bg, Nat.div_one, aM, aX, Ty.size, aI, dite_true, aB, aD, aC, aq, az, aP, reduceCtorEq, E, D, J, S, M, O, Try.el89, Try.td3, Try.td4, Try.td89, Mly.av, Dfa.av, List.length_map]; (repeat refine And.intro (by first | omega | assumption | exact rfl) ?_); (first | refine V _ ?_ | refine Or.inl (V _ ?_)); clear V K0; simp only [put, app, Z, ae, zE, zS, D])
      refine ai ?_
      refine hK59 _ ?_; clear hK59; refine ad [2, 4, 5, 9, 10, 11, 60] ?_; simp only [U, lkp, zE, reduceCtorEq, E, Y, D]
      refine aA (by simp only [ev, U, lkp, zE, reduceCtorEq, E, Y, D]; exact rfl) (fun hc60 => ?_) (fun hc60 => ?_)
      ·(try simp only [zB, reduceCtorEq] at hc60)
       refine aG ?_
       refine hK58 _ ?_; clear hK58; refine ad [2, 4, 5, 9, 10, 11, 60] ?_; simp only [U, lkp, zE, reduceCtorEq, E, Y, D]
       refine aa fun K61 hK61 => ?_
       refine aN ?_
       refine aa fun K62 hK62 => ?_
       refine af hP hN rfl ?_
       (refine ab rfl fun K0 V => ?_; simp only [zE, op1, ev, lkp, ah, ag, ev, reduceCtorEq, E, D, J, S, M, O, Try.el26, Try.td26, Mly.av, Dfa.av, List.length_map]; refine V _ ?_; clear V K0; simp only [put, app, Z, ae, zE, zS, D])
       refine ai ?_
       refine hK62 _ ?_; clear hK62; refine ad [2, 4, 5, 9, 10, 11, 12, 60] ?_; simp only [U, lkp, zE, reduceCtorEq, E, Y, D]
       refine aa fun K63 hK63 => ?_
       refine aa fun K64 hK64 => ?_
       refine af hP hN rfl ?_
       (refine ab rfl fun K0 V => ?_; simp only [zE, op1, ev, lkp, ah, ag, ev, reduceCtorEq, E, D, J, S, M, O, Try.td3, Mly.av, Dfa.av, List.length_map]; refine V _ ?_; clear V K0; simp only [put, app, Z, ae, zE, zS, D])
       refine ai ?_
       refine hK64 _ ?_; clear hK64; refine ad [2, 4, 5, 9, 10, 11, 12, 13, 60] ?_; simp only [U, lkp, zE, reduceCtorEq, E, Y, D]
       refine aN ?_
       refine eW 12 (.int .i64) 3 (by decide) rfl ?_; simp only [List.length_cons, List.length_nil, List.cons_append, List.nil_append, Nat.zero_add, D]
       refine bo (fun n65 s65 => ∃ (x : Nat) (w : Nat) (z : Nat), ((x : Int) ≤ m.inp) ∧ (DW m.nx.length 2 (bI (bB m) (l.getD k w30) l x)) ∧ n65 = m.inp.toNat - x ∧ s65 = { env := [(2, .one (.ptr 0 0 0 0)), (4, .one (.ptr 1 0 0 0)), (5, .one (.int .i64 0)), (9, .one (.row 2 w)), (10, .one (.ptr 3 0 0 0)), (11, .one (.int .i64 (k : Int))), (12, .one (.row 6 z)), (13, .one (.int .i64 (x : Int)))], L := [.vars 58 [.int .i64 m.inp, .int .i64 m.st, .list (.list (.int .i64)) m.nx, .list (.list (.int .i64)) m.ot], .vars 25 [.int .i64 0, .int .i64 0, .nils, .nils], .row (.pair (.int .i64) (.pair (.int .i64) .unit)) 93 w (List.map dG ((bI (bB m) (l.getD k w30) l x).map Prod.fst)), .vars 25 [.int .i64 m.inp, .int .i64 0, .row 4 u, .row 5 u], .row (.list (.int .i64)) 26 u ((List.range k).map fun i => dRw (bB m) m.inp.toNat (bZ m acc) i m.inp.toNat), .row .bool 4 u (((bZ m acc).take k).map fun e => cW e.1), .row (.int .i64) 3 z (dRw (bB m) m.inp.toNat (bZ m acc) k x)] }) ?_ ?_
       ·exact ⟨_, _, aJ [2, 4, 5, 9, 10, 11, 12, 13], 0, v, 0, by omega, hdw, rfl, rfl⟩
       ·rintro n65 s65 ⟨x, w, z, hx, hdc, rfl, rfl⟩
        refine aa fun K66 hK66 => ?_
        refine aa fun K67 hK67 => ?_
        refine af hP hN rfl ?_
        iterate 4 (refine ab rfl fun K0 V => ?_; simp only [zE, op1, ev, lkp, ah, ag, ao, ay, Nat.mul_one, aw, ax, acs, Ty.dflt, zG, ak, aB, aD, aC, aq, az, aP, reduceCtorEq, E, D, J, S, M, O, Try.st58, Try.td3, Try.td4, Try.td58, Mly.av, Dfa.av, List.length_map]; (repeat refine And.intro (by first | omega | assumption | exact rfl) ?_); refine V _ ?_; clear V K0; simp only [put, app, Z, ae, zE, zS, D])
        refine ai ?_
        refine hK67 _ ?_; clear hK67; refine ad [2, 4, 5, 9, 10, 11, 12, 13, 66] ?_; simp only [U, lkp, zE, reduceCtorEq, E, Y, D]
        refine aA (by simp only [ev, U, lkp, zE, reduceCtorEq, E, Y, D]; exact rfl) (fun hc68 => ?_) (fun hc68 => ?_)
        ·(try simp only [zB, reduceCtorEq] at hc68)
         refine aG ?_
         refine hK66 _ ?_; clear hK66; refine ad [2, 4, 5, 9, 10, 11, 12, 13, 66] ?_; simp only [U, lkp, zE, reduceCtorEq, E, Y, D]
         refine aa fun K69 hK69 => ?_
         refine aN ?_
         refine aa fun K70 hK70 => ?_
         refine eB ?_; simp only [List.cons_append, List.append_assoc, List.nil_append]
         have hkl : k < l.length := by omega
         have hge := dV (bB m) (l.getD k w30) l x
         have hgi : ∀ d, (List.map dG ((bI (bB m) (l.getD k w30) l x).map Prod.fst)).getD k d = (((l.getD k w30).1.1, ((l.getD k w30).1.2, ()))) := fun d => by rw [gq (by omega), eG _ _ x hkl]
         have hre := hdw.rg _ (d4 hkl)
         obtain ⟨⟨hr1, hr2⟩, hr3⟩ := id hre
         have hra := hm.rl (l.getD k w30).1.1.toNat (by omega); have hrb := hm.ql (l.getD k w30).1.1.toNat (by omega); have hcl := hdc.le; have hdl := hdw.le
         refine bP hP hN Try.mixed rfl ?_
         iterate 25 (refine ab rfl fun K0 V => ?_; simp only [zE, op1, ev, lkp, ah, ag, ao, ay, Nat.mul_one, aw, ax, acs, Ty.dflt, zG, ak, aK, Ty.size, ne_eq, not_false_eq_true, Int.natCast_one, Int.mul_one, bH, b0, aO, am, reduceCtorEq, E, D, J, S, M, O, Try.el22, Try.el26, Try.el89, Try.fl93, Try.st58, Try.st93, Try.td2, Try.td22, Try.td26, Try.td3, Try.td58, Try.td89, Try.td93, Mly.av, Dfa.av, List.length_map, hgi]; (repeat refine And.intro (by first | omega | assumption | exact rfl) ?_); (first | refine V _ ?_ | refine Or.inl (V _ ?_)); clear V K0; simp only [put, app, Z, ae, zE, zS, D])
         (refine ab rfl fun K0 V => ?_; simp only [zE, op1, ev, lkp, ah, ag, bE, reduceCtorEq, E, D, J, S, M, O, Try.fl93, Try.st93, Try.td93, Mly.av, Dfa.av, List.length_map, hgi]; refine Or.inr (Or.inl ⟨7, ?_, (.pair (.int .i64) (.pair (.int .i64) .unit)), (0, (0, ())), ?_⟩); (exact rfl); (repeat refine And.intro (by first | rfl | decide) ?_); refine V _ ?_; clear V K0; simp only [put, app, Z, ae, zE, zS, D])
         (refine ab rfl fun K0 V => ?_; simp only [zE, op1, ev, lkp, ah, ag, aZ, Nat.mul_one, am, aO, aI, acs, Ty.size, Ty.dflt, zG, reduceCtorEq, E, D, J, S, M, O, Try.fl93, Try.st93, Try.td93, Mly.av, Dfa.av, List.length_map, hgi]; (repeat refine And.intro (by first | omega | assumption | exact rfl) ?_); refine V _ ?_; clear V K0; simp only [put, app, Z, ae, zE, zS, D])
         refine ai ?_
         refine ⟨by kernel_rfl, ?_⟩
         refine hK70 _ ?_; clear hK70; refine ad [2, 4, 5, 9, 10, 11, 12, 13, 14, 66] ?_; simp only [U, lkp, zE, reduceCtorEq, E, Y, D]
         refine aa fun K71 hK71 => ?_
         refine af hP hN rfl ?_
         iterate 2 (refine ab rfl fun K0 V => ?_; simp only [zE, op1, ev, lkp, ah, ag, ay, Nat.mul_one, aw, ax, acs, Ty.dflt, zG, ak, reduceCtorEq, E, D, J, S, M, O, Try.el89, Try.fl93, Try.st93, Try.td89, Try.td93, Mly.av, Dfa.av, List.length_map]; (repeat refine And.intro (by first | omega | assumption | exact rfl) ?_); refine V _ ?_; clear V K0; simp only [put, app, Z, ae, zE, zS, D])
         refine ab rfl fun K0 V => ?_
         refine aT (h := gb (args := [.one (.row 2 w), .agg [.int .i64 (bB m (l.getD k w30).1 x).1, .int .i64 (bB m (l.getD k w30).1 x).2]]) (by simp [fzV, fz1, fzC]) rfl (kB ((bI (bB m) (l.getD k w30) l x).map Prod.fst) (bB m (l.getD k w30).1 x) (by rw [List.length_map]; omega)) rfl) rfl rfl (by first | exact rfl | (simp only [ev, U, lkp, zE, reduceCtorEq, E, Y, D]; exact rfl)) (by simp only [zE, zG, op1, ev, lkp, ah, ag, am, acs, be, mv1, mvC, Ty.dflt, reduceCtorEq, E, D, J, S, M, O, Mly.av, Dfa.av, List.length_map, List.getD_cons_zero, bB, Mly.nxt, Mly.out, Int.toNat_natCast]) ?_
         refine V _ ?_; clear V K0; simp only [put, app, Z, ae, zE, zS, D]
         (refine ab rfl fun K0 V => ?_; simp only [zE, op1, ev, lkp, ah, ag, ev, reduceCtorEq, E, D, J, S, M, O, Try.td3, Mly.av, Dfa.av, List.length_map]; refine V _ ?_; clear V K0; simp only [put, app, Z, ae, zE, zS, D])
         refine ai ?_
         refine hK71 _ ?_; clear hK71; refine ad [2, 4, 5, 9, 10, 11, 12, 13, 14, 15, 66] ?_; simp only [U, lkp, zE, reduceCtorEq, E, Y, D]
         refine aa fun K72 hK72 => ?_
         refine aa fun K73 hK73 => ?_
         refine af hP hN rfl ?_
         iterate 4 (refine ab rfl fun K0 V => ?_; simp only [zE, op1, ev, lkp, ah, ag, aE, bj, ba, aU, aV, bg, Nat.div_one, aM, aX, Ty.size, aI, dite_true, aB, aD, aC, aq, az, aP, reduceCtorEq, E, D, J, S, M, O, Try.el89, Try.td3, Try.td4, Try.td89, Mly.av, Dfa.av, List.length_map]; (repeat refine And.intro (by first | omega | assumption | exact rfl) ?_); (first | refine V _ ?_ | refine Or.inl (V _ ?_)); clear V K0; simp only [put, app, Z, ae, zE, zS, D])
         refine ai ?_
         refine hK73 _ ?_; clear hK73; refine ad [2, 4, 5, 9, 10, 11, 12, 13, 14, 15, 66, 100] ?_; simp only [U, lkp, zE, reduceCtorEq, E, Y, D]
         refine aA (by simp only [ev, U, lkp, zE, reduceCtorEq, E, Y, D]; exact rfl) (fun hc74 => ?_) (fun hc74 => ?_)
         ·(try simp only [zB, reduceCtorEq] at hc74)
          have hnin : (bB m (l.getD k w30).1 x) ∉ (bI (bB m) (l.getD k w30) l x).map Prod.fst := fun hin => by have h8 := fE hin; rw [List.length_map] at h8; have h9 := hc74; omega
          refine af hP hN rfl ?_
          iterate 5 (refine ab rfl fun K0 V => ?_; simp only [zE, op1, ev, lkp, ah, ag, ay, Nat.mul_one, aw, ax, acs, Ty.dflt, zG, ak, bb, b0, bQ, rep, aI, aO, am, Ty.size, aE, bj, ba, aU, aV, bg, Nat.div_one, aM, aX, dite_true, reduceCtorEq, E, D, J, S, M, O, Try.el89, Try.fl93, Try.st93, Try.td1, Try.td89, Try.td93, Mly.av, Dfa.av, List.length_map]; (repeat refine And.intro (by first | omega | assumption | exact rfl) ?_); (first | refine V _ ?_ | refine Or.inl (V _ ?_)); clear V K0; simp only [put, app, Z, ae, zE, zS, D])
          refine ai ?_
          refine hK72 _ ?_; clear hK72; refine ad [2, 4, 5, 9, 10, 11, 12, 13, 14, 15, 66, 100] ?_; simp only [U, lkp, zE, reduceCtorEq, E, Y, D]
          refine af hP hN rfl ?_
          iterate 5 (refine ab rfl fun K0 V => ?_; simp only [zE, op1, ev, lkp, ah, ag, bb, b0, bQ, rep, aI, aO, am, Ty.size, aE, bj, ba, aU, aV, bg, Nat.div_one, aM, aX, dite_true, reduceCtorEq, E, D, J, S, M, O, Try.el26, Try.td1, Try.td26, Try.td3, Mly.av, Dfa.av, List.length_map, bW]; (repeat refine And.intro (by first | omega | assumption | exact rfl) ?_); (first | refine V _ ?_ | refine Or.inl (V _ ?_)); clear V K0; simp only [put, app, Z, ae, zE, zS, D])
          refine ai ?_
          refine hK69 _ ?_; clear hK69; refine ad [2, 4, 5, 9, 10, 11, 12, 13, 14, 15, 66, 100] ?_; simp only [U, lkp, zE, reduceCtorEq, E, Y, D]
          refine ad [2, 4, 5, 9, 10, 11, 12, 13] ?_; simp only [U, lkp, zE, reduceCtorEq, E]
          refine dy (L1 := [_, _, _, _, _, _, _]) rfl hB rfl rfl ?_
          refine af hP hN rfl ?_
          iterate 3 (refine ab rfl fun K0 V => ?_; simp only [zE, op1, ev, lkp, ah, ag, aB, aD, aC, aq, az, aP, reduceCtorEq, E, D, J, S, M, O, Try.td3, Mly.av, Dfa.av, List.length_map]; (repeat refine And.intro (by first | omega | assumption | exact rfl) ?_); refine V _ ?_; clear V K0; simp only [put, app, Z, ae, zE, zS, D])
          refine ai ?_
          have hkl : k < l.length := by omega
          have hdl := hdw.le
          have hat9 : (bZ m acc).getD k w30 = l.getD k w30 := by rw [← hrun]; exact gz hkl
          have hps := ia (A := bB m) (n := m.inp.toNat) (f := m.nx.length * 2 - k) (x := x) hkl (by omega)
          rw [show m.nx.length * 2 - k + 1 = m.nx.length * 2 + 1 - k by omega, hrun] at hps
          first
          | (have hs9 : bI (bB m) (l.getD k w30) l (x + 1) = (bI (bB m) (l.getD k w30) l x) := by rw [bV, dP hin]
             refine ⟨_, _, ?_, aJ [2, 4, 5, 9, 10, 11, 12, 13], x + 1, w, z + 1, by omega, by rw [hs9]; exact hdc, rfl, ?_⟩
             · omega
             · rw [hs9, dg, hat9, hps]; rfl)
          | (have hs9 : bI (bB m) (l.getD k w30) l (x + 1) = (bI (bB m) (l.getD k w30) l x) ++ [((bB m (l.getD k w30).1 x), (l.getD k w30).2 ++ [(x : Int)])] := by rw [bV, d8 hnin]
             have hm9 : (l.getD k w30) ∈ (bI (bB m) (l.getD k w30) l x) := by obtain ⟨k8, h8⟩ := cV (bB m) (l.getD k w30) l x; rw [h8]; exact List.mem_append.2 (.inl (d4 hkl))
             refine ⟨_, _, ?_, aJ [2, 4, 5, 9, 10, 11, 12, 13], x + 1, w + 1, z + 1, by omega, by rw [bV]; exact hdc.step (eY hm hbg (n := m.inp.toNat) (by omega)) hm9 (by omega), rfl, ?_⟩
             · omega
             · rw [hs9, dg, hat9, hps, List.map_append, List.map_append]; rfl)
         ·(try simp only [zB, reduceCtorEq] at hc74)
          have hin : (bB m (l.getD k w30).1 x) ∈ (bI (bB m) (l.getD k w30) l x).map Prod.fst := by
            by_cases hin : (bB m (l.getD k w30).1 x) ∈ (bI (bB m) (l.getD k w30) l x).map Prod.fst
            · exact hin
            · exfalso; have h8 := eX hin; rw [List.length_map] at h8; have h9 := hc74; omega
          refine aG ?_
          refine hK72 _ ?_; clear hK72; refine ad [2, 4, 5, 9, 10, 11, 12, 13, 14, 15, 66, 100] ?_; simp only [U, lkp, zE, reduceCtorEq, E, Y, D]
          refine af hP hN rfl ?_
          iterate 5 (refine ab rfl fun K0 V => ?_; simp only [zE, op1, ev, lkp, ah, ag, bb, b0, bQ, rep, aI, aO, am, Ty.size, aE, bj, ba, aU, aV, bg, Nat.div_one, aM, aX, dite_true, reduceCtorEq, E, D, J, S, M, O, Try.el26, Try.td1, Try.td26, Try.td3, Mly.av, Dfa.av, List.length_map, bW]; (repeat refine And.intro (by first | omega | assumption | exact rfl) ?_); (first | refine V _ ?_ | refine Or.inl (V _ ?_)); clear V K0; simp only [put, app, Z, ae, zE, zS, D])
          refine ai ?_
          refine hK69 _ ?_; clear hK69; refine ad [2, 4, 5, 9, 10, 11, 12, 13, 14, 15, 66, 100] ?_; simp only [U, lkp, zE, reduceCtorEq, E, Y, D]
          refine ad [2, 4, 5, 9, 10, 11, 12, 13] ?_; simp only [U, lkp, zE, reduceCtorEq, E]
          refine dy (L1 := [_, _, _, _, _, _, _]) rfl hB rfl rfl ?_
          refine af hP hN rfl ?_
          iterate 3 (refine ab rfl fun K0 V => ?_; simp only [zE, op1, ev, lkp, ah, ag, aB, aD, aC, aq, az, aP, reduceCtorEq, E, D, J, S, M, O, Try.td3, Mly.av, Dfa.av, List.length_map]; (repeat refine And.intro (by first | omega | assumption | exact rfl) ?_); refine V _ ?_; clear V K0; simp only [put, app, Z, ae, zE, zS, D])
          refine ai ?_
          have hkl : k < l.length := by omega
          have hdl := hdw.le
          have hat9 : (bZ m acc).getD k w30 = l.getD k w30 := by rw [← hrun]; exact gz hkl
          have hps := ia (A := bB m) (n := m.inp.toNat) (f := m.nx.length * 2 - k) (x := x) hkl (by omega)
          rw [show m.nx.length * 2 - k + 1 = m.nx.length * 2 + 1 - k by omega, hrun] at hps
          first
          | (have hs9 : bI (bB m) (l.getD k w30) l (x + 1) = (bI (bB m) (l.getD k w30) l x) := by rw [bV, dP hin]
             refine ⟨_, _, ?_, aJ [2, 4, 5, 9, 10, 11, 12, 13], x + 1, w, z + 1, by omega, by rw [hs9]; exact hdc, rfl, ?_⟩
             · omega
             · rw [hs9, dg, hat9, hps]; rfl)
          | (have hs9 : bI (bB m) (l.getD k w30) l (x + 1) = (bI (bB m) (l.getD k w30) l x) ++ [((bB m (l.getD k w30).1 x), (l.getD k w30).2 ++ [(x : Int)])] := by rw [bV, d8 hnin]
             have hm9 : (l.getD k w30) ∈ (bI (bB m) (l.getD k w30) l x) := by obtain ⟨k8, h8⟩ := cV (bB m) (l.getD k w30) l x; rw [h8]; exact List.mem_append.2 (.inl (d4 hkl))
             refine ⟨_, _, ?_, aJ [2, 4, 5, 9, 10, 11, 12, 13], x + 1, w + 1, z + 1, by omega, by rw [bV]; exact hdc.step (eY hm hbg (n := m.inp.toNat) (by omega)) hm9 (by omega), rfl, ?_⟩
             · omega
             · rw [hs9, dg, hat9, hps, List.map_append, List.map_append]; rfl)
        ·(try simp only [zB, reduceCtorEq] at hc68)
         refine bm ?_
         refine hK63 _ ?_; clear hK63; refine ad [2, 4, 5, 9, 10, 11, 12, 13, 66] ?_; simp only [U, lkp, zE, reduceCtorEq, E, Y, D]
         refine aa fun K75 hK75 => ?_
         refine cG 6 rfl ?_; simp only [List.map_cons, List.map_nil, zS, E, and_self, and_true, true_and, and_false, false_and, if_true, if_false, eq_self, reduceCtorEq, Nat.one_ne_zero, Nat.zero_ne_one]
         have hxn : x = m.inp.toNat := by omega
         have hdl := hdw.le; have hcl := hdc.le
         refine af hP hN rfl ?_
         iterate 7 (refine ab rfl fun K0 V => ?_; simp only [zE, op1, ev, lkp, ah, ag, ao, ay, Nat.mul_one, aw, ax, acs, Ty.dflt, zG, ak, bb, b0, bQ, rep, aI, aO, am, Ty.size, aE, bj, ba, aU, aV, bg, Nat.div_one, aM, aX, dite_true, aZ, reduceCtorEq, E, D, J, S, M, O, Try.el22, Try.el26, Try.st25, Try.td1, Try.td2, Try.td22, Try.td25, Try.td26, Mly.av, Dfa.av, List.length_map, bW, List.length_range]; (repeat refine And.intro (by first | omega | assumption | exact rfl) ?_); (first | refine V _ ?_ | refine Or.inl (V _ ?_)); clear V K0; simp only [put, app, Z, ae, zE, zS, D])
         refine ai ?_
         refine hK75 _ ?_; clear hK75; refine ad [2, 4, 5, 9, 10, 11, 12, 13, 66] ?_; simp only [U, lkp, zE, reduceCtorEq, E, Y, D]
         have hkl : k < l.length := by omega
         have hge := dV (bB m) (l.getD k w30) l x
         have hgi : ∀ d, (List.map dG ((bI (bB m) (l.getD k w30) l x).map Prod.fst)).getD k d = (((l.getD k w30).1.1, ((l.getD k w30).1.2, ()))) := fun d => by rw [gq (by omega), eG _ _ x hkl]
         refine bP hP hN Try.mixed rfl ?_
         iterate 12 (refine ab rfl fun K0 V => ?_; simp only [zE, op1, ev, lkp, ah, ag, ao, ay, Nat.mul_one, aw, ax, acs, Ty.dflt, zG, ak, aK, Ty.size, ne_eq, not_false_eq_true, Int.natCast_one, Int.mul_one, aB, aD, aC, aq, az, aP, bb, b0, bQ, rep, aI, aO, am, aE, bj, ba, aU, aV, bg, Nat.div_one, aM, aX, dite_true, aZ, reduceCtorEq, E, D, J, S, M, O, Try.el23, Try.el89, Try.fl93, Try.st25, Try.st93, Try.td1, Try.td23, Try.td25, Try.td3, Try.td4, Try.td89, Try.td93, Mly.av, Dfa.av, List.length_map, hgi, List.length_take]; (repeat refine And.intro (by first | omega | assumption | exact rfl) ?_); (first | refine V _ ?_ | refine Or.inl (V _ ?_)); clear V K0; simp only [put, app, Z, ae, zE, zS, D])
         refine ai ?_
         refine ⟨by kernel_rfl, ?_⟩
         refine hK61 _ ?_; clear hK61; refine ad [2, 4, 5, 9, 10, 11, 12, 13, 66] ?_; simp only [U, lkp, zE, reduceCtorEq, E, Y, D]
         refine cQ (n := 6) (L1 := [_, _, _, _, _, _]) rfl rfl (by rw [hB]; decide) rfl rfl ?_
         refine af hP hN rfl ?_
         iterate 3 (refine ab rfl fun K0 V => ?_; simp only [zE, op1, ev, lkp, ah, ag, aB, aD, aC, aq, az, aP, reduceCtorEq, E, D, J, S, M, O, Try.td3, Mly.av, Dfa.av, List.length_map]; (repeat refine And.intro (by first | omega | assumption | exact rfl) ?_); refine V _ ?_; clear V K0; simp only [put, app, Z, ae, zE, zS, D])
         refine ai ?_
         have hkl : k < l.length := by omega
         subst hxn
         have hge9 := dV (bB m) (l.getD k w30) l m.inp.toNat
         have hat9 : (bZ m acc).getD k w30 = l.getD k w30 := by rw [← hrun]; exact gz hkl
         have hlk9 : k < (bZ m acc).length := by have h8 := lY (bB m) m.inp.toNat (m.nx.length * 2 + 1 - k) k l; rw [hrun] at h8; omega
         refine ⟨_, _, ?_, aJ [2, 4, 5, 9, 10, 11], k + 1, bI (bB m) (l.getD k w30) l m.inp.toNat, w, u + 1, hdc, ?_, by omega, rfl, ?_⟩
         · omega
         · rw [← hrun, show m.nx.length * 2 + 1 - k = m.nx.length * 2 + 1 - (k + 1) + 1 by omega, dM _ _ _ hkl]
         · rw [fZ, da _ w30 hlk9, hat9]; rfl
      ·(try simp only [zB, reduceCtorEq] at hc60)
       refine bm ?_
       refine hK55 _ ?_; clear hK55; refine ad [2, 4, 5, 9, 10, 11, 60] ?_; simp only [U, lkp, zE, reduceCtorEq, E, Y, D]
       refine aa fun K76 hK76 => ?_
       refine aa fun K77 hK77 => ?_
       have hLL : l = (bZ m acc) := by rw [← hrun, gl _ _ _ _ (by omega)]
       have hdl := hdw.le
       refine af hP hN rfl ?_
       iterate 3 (refine ab rfl fun K0 V => ?_; simp only [zE, op1, ev, lkp, ah, ag, aE, bj, ba, aU, aV, bg, Nat.div_one, aM, aX, Ty.size, aI, dite_true, aB, aD, aC, aq, az, aP, reduceCtorEq, E, D, J, S, M, O, Try.el89, Try.td3, Try.td4, Try.td89, Mly.av, Dfa.av, List.length_map]; (repeat refine And.intro (by first | omega | assumption | exact rfl) ?_); (first | refine V _ ?_ | refine Or.inl (V _ ?_)); clear V K0; simp only [put, app, Z, ae, zE, zS, D])
       refine ai ?_
       refine hK77 _ ?_; clear hK77; refine ad [2, 4, 5, 9, 10, 11, 60, 128] ?_; simp only [U, lkp, zE, reduceCtorEq, E, Y, D]
       refine aA (by simp only [ev, U, lkp, zE, reduceCtorEq, E, Y, D]; exact rfl) (fun hc78 => ?_) (fun hc78 => ?_)
       ·(try simp only [zB, reduceCtorEq] at hc78)
        refine aa fun K79 hK79 => ?_
        refine af hP hN rfl ?_
        iterate 3 (refine ab rfl fun K0 V => ?_; simp only [zE, op1, ev, lkp, ah, ag, bH, b0, aO, am, aZ, Nat.mul_one, aI, acs, Ty.size, Ty.dflt, zG, reduceCtorEq, E, D, J, S, M, O, Try.st25, Try.td25, Try.td3, Mly.av, Dfa.av, List.length_map]; (repeat refine And.intro (by first | omega | assumption | exact rfl) ?_); (first | refine V _ ?_ | refine Or.inl (V _ ?_)); clear V K0; simp only [put, app, Z, ae, zE, zS, D])
        refine ai ?_
        refine hK79 _ ?_; clear hK79; refine ad [2, 4, 5, 9, 10, 11, 60, 128] ?_; simp only [U, lkp, zE, reduceCtorEq, E, Y, D]
        refine aH ?_
        refine ⟨by first | exact .inl rfl | exact .inr rfl, _, rfl, ?_⟩; simp only [fzV, fz1, fzC, List.map_cons, List.map_nil, U, lkp, zE, reduceCtorEq, E, Y, D, Mly.av, Dfa.av, List.length_map]
        first
        | (have g9 := gJ (acc := acc) (by assumption); obtain ⟨g1, g2⟩ := g9; rw [g1, g2]; exact br ⟨bp ⟨.refl _, .refl _, aQ rfl, aQ rfl, trivial⟩, bf (.refl _), trivial⟩)
        | (have g9 := gC (acc := acc) hv hbig; obtain ⟨g1, g2⟩ := g9; rw [g1, g2]; exact br ⟨bp ⟨.refl _, .refl _, aQ rfl, aQ rfl, trivial⟩, bf (.refl _), trivial⟩)
        | (have g9 := dh (acc := acc) hv hbg; obtain ⟨g1, g2⟩ := g9
           have g3 : dBE (bZ m acc) = 11 := if_pos (by rw [← hLL]; omega)
           have g4 : dBD (bB m) cW m.inp.toNat (bZ m acc) = cY := if_pos (by rw [← hLL]; omega)
           rw [g1, g2, g3, g4]; exact br ⟨bp ⟨.refl _, .refl _, aQ rfl, aQ rfl, trivial⟩, bf (.refl _), trivial⟩)
        | (have g9 := dh (acc := acc) hv hbg; obtain ⟨g1, g2⟩ := g9
           have hke : k = (bZ m acc).length := by rw [← hLL]; omega
           have g3 : dBE (bZ m acc) = 0 := if_neg (by rw [← hLL]; omega)
           have g4 : dBD (bB m) cW m.inp.toNat (bZ m acc) = dBn (bB m) cW m.inp.toNat (bZ m acc) := if_neg (by rw [← hLL]; omega)
           rw [g1, g2, g3, g4, gr (by omega), hke, List.take_length]; exact VLE.of_eq rfl)
       ·(try simp only [zB, reduceCtorEq] at hc78)
        refine aG ?_
        refine hK76 _ ?_; clear hK76; refine ad [2, 4, 5, 9, 10, 11, 60, 128] ?_; simp only [U, lkp, zE, reduceCtorEq, E, Y, D]
        refine aa fun K80 hK80 => ?_
        refine cm 4 3 rfl rfl ?_; simp only [List.map_cons, List.map_nil, frC, zS, E, and_self, and_true, true_and, and_false, false_and, if_true, if_false, eq_self, reduceCtorEq, Nat.one_ne_zero, Nat.zero_ne_one]
        refine cm 5 3 rfl rfl ?_; simp only [List.map_cons, List.map_nil, frC, zS, E, and_self, and_true, true_and, and_false, false_and, if_true, if_false, eq_self, reduceCtorEq, Nat.one_ne_zero, Nat.zero_ne_one]
        refine af hP hN rfl ?_
        iterate 3 (refine ab rfl fun K0 V => ?_; simp only [zE, op1, ev, lkp, ah, ag, ay, Nat.mul_one, aw, ax, acs, Ty.dflt, zG, ak, aZ, am, aO, aI, Ty.size, reduceCtorEq, E, D, J, S, M, O, Try.st25, Try.td25, Try.td3, Mly.av, Dfa.av, List.length_map]; (repeat refine And.intro (by first | omega | assumption | exact rfl) ?_); refine V _ ?_; clear V K0; simp only [put, app, Z, ae, zE, zS, D])
        refine ai ?_
        refine hK80 _ ?_; clear hK80; refine ad [2, 4, 5, 9, 10, 11, 60, 128] ?_; simp only [U, lkp, zE, reduceCtorEq, E, Y, D]
        refine aH ?_
        refine ⟨by first | exact .inl rfl | exact .inr rfl, _, rfl, ?_⟩; simp only [fzV, fz1, fzC, List.map_cons, List.map_nil, U, lkp, zE, reduceCtorEq, E, Y, D, Mly.av, Dfa.av, List.length_map]
        first
        | (have g9 := gJ (acc := acc) (by assumption); obtain ⟨g1, g2⟩ := g9; rw [g1, g2]; exact br ⟨bp ⟨.refl _, .refl _, aQ rfl, aQ rfl, trivial⟩, bf (.refl _), trivial⟩)
        | (have g9 := gC (acc := acc) hv hbig; obtain ⟨g1, g2⟩ := g9; rw [g1, g2]; exact br ⟨bp ⟨.refl _, .refl _, aQ rfl, aQ rfl, trivial⟩, bf (.refl _), trivial⟩)
        | (have g9 := dh (acc := acc) hv hbg; obtain ⟨g1, g2⟩ := g9
           have g3 : dBE (bZ m acc) = 11 := if_pos (by rw [← hLL]; omega)
           have g4 : dBD (bB m) cW m.inp.toNat (bZ m acc) = cY := if_pos (by rw [← hLL]; omega)
           rw [g1, g2, g3, g4]; exact br ⟨bp ⟨.refl _, .refl _, aQ rfl, aQ rfl, trivial⟩, bf (.refl _), trivial⟩)
        | (have g9 := dh (acc := acc) hv hbg; obtain ⟨g1, g2⟩ := g9
           have hke : k = (bZ m acc).length := by rw [← hLL]; omega
           have g3 : dBE (bZ m acc) = 0 := if_neg (by rw [← hLL]; omega)
           have g4 : dBD (bB m) cW m.inp.toNat (bZ m acc) = dBn (bB m) cW m.inp.toNat (bZ m acc) := if_neg (by rw [← hLL]; omega)
           rw [g1, g2, g3, g4, gr (by omega), hke, List.take_length]; exact VLE.of_eq rfl)
end Go.Proofs.Ytdkgcbhbpdbmnaa
namespace Go.Proofs.Ytdkgcbhbpdbmnaa
open Go Go.AV
open Nat renaming reduceEqDiff → E, reduceAdd → D, reduceLeDiff → J, reduceLT → S, reduceMul → M, reduceSub → O
open List renaming set_cons_zero → au, set_cons_succ → ar
set_option maxRecDepth 100000 in
theorem nf (d : Dfa) (hd : DOK d) : bG Try.prog 44 [d.av] (d.av) := by
 have a1 := hd.i1; have a2 := hd.i2; have a3 := hd.n1; have a4 := hd.n2; have a7 := hd.al
 refine aR Try.func44 rfl (by kernel_rfl) (Nat.le_of_ble_eq_true rfl) rfl fun C hP hN hB => ?_
 replace hN : C.N = 34 := hN
 simp only [Y, D]
 refine aa fun K1 hK1 => ?_
 refine af hP hN rfl ?_
 iterate 2 (refine ab rfl fun K0 V => ?_; simp only [zE, op1, ev, lkp, ah, ag, ca, am, bE, reduceCtorEq, E, D, J, S, M, O, Try.st25, Try.td25, Dfa.av, List.getD_cons_zero, List.getD_cons_succ]; (repeat refine And.intro (by first | omega | assumption | exact rfl) ?_); (first | refine V _ ?_ | refine Or.inl (V _ ?_)); clear V K0; simp only [put, app, Z, ae, zE, zS, D])
 refine ai ?_
 refine hK1 _ ?_; clear hK1; refine ad [0, 1, 2] ?_; simp only [U, lkp, zE, reduceCtorEq, E, Y, D]
 refine aa fun K2 hK2 => ?_
 refine eB ?_; simp only [List.cons_append, List.append_assoc, List.nil_append]
 refine eB ?_; simp only [List.cons_append, List.append_assoc, List.nil_append]
 refine bP hP hN Try.mixed rfl ?_
 iterate 4 (refine ab rfl fun K0 V => ?_; simp only [zE, op1, ev, lkp, ah, ag, ao, ay, Nat.mul_one, aw, ax, acs, Ty.dflt, zG, ak, reduceCtorEq, E, D, J, S, M, O, Try.st25, Try.td1, Try.td25, Try.td3, Dfa.av, List.getD_cons_zero, List.getD_cons_succ]; (repeat refine And.intro (by first | omega | assumption | exact rfl) ?_); refine V _ ?_; clear V K0; simp only [put, app, Z, ae, zE, zS, D])
 (refine ab rfl fun K0 V => ?_; simp only [zE, op1, ev, lkp, ah, ag, bb, b0, bQ, rep, aI, aO, am, Ty.size, reduceCtorEq, E, D, J, S, M, O, Try.el23, Try.td23, Dfa.av, List.getD_cons_zero, List.getD_cons_succ]; (repeat refine And.intro (by first | omega | assumption | exact rfl) ?_); refine Or.inr (Or.inr ⟨3, by exact rfl, ?_⟩); refine V _ ?_; clear V K0; simp only [put, app, Z, ae, zE, zS, D])
 iterate 2 (refine ab rfl fun K0 V => ?_; simp only [zE, op1, ev, lkp, ah, ag, ao, ay, Nat.mul_one, aw, ax, acs, Ty.dflt, zG, ak, reduceCtorEq, E, D, J, S, M, O, Try.el23, Try.st25, Try.td23, Try.td25, Try.td3, Dfa.av, List.getD_cons_zero, List.getD_cons_succ]; (repeat refine And.intro (by first | omega | assumption | exact rfl) ?_); refine V _ ?_; clear V K0; simp only [put, app, Z, ae, zE, zS, D])
 (refine ab rfl fun K0 V => ?_; simp only [zE, op1, ev, lkp, ah, ag, aE, bj, ba, aU, aV, bg, Nat.div_one, aM, aX, Ty.size, aI, dite_true, reduceCtorEq, E, D, J, S, M, O, Try.el23, Try.td23, Dfa.av, List.getD_cons_zero, List.getD_cons_succ]; (repeat refine And.intro (by first | omega | assumption | exact rfl) ?_); refine Or.inr (V _ ?_); clear V K0; simp only [put, app, Z, ae, zE, zS, D])
 (refine ab rfl fun K0 V => ?_; simp only [zE, op1, ev, lkp, ah, ag, bH, b0, aO, am, reduceCtorEq, E, D, J, S, M, O, Try.st25, Try.td25, Dfa.av, List.getD_cons_zero, List.getD_cons_succ]; (repeat refine And.intro (by first | omega | assumption | exact rfl) ?_); (first | refine V _ ?_ | refine Or.inl (V _ ?_)); clear V K0; simp only [put, app, Z, ae, zE, zS, D])
 (refine ab rfl fun K0 V => ?_; simp only [zE, op1, ev, lkp, ah, ag, bE, reduceCtorEq, E, D, J, S, M, O, Try.st25, Try.td25, Dfa.av, List.getD_cons_zero, List.getD_cons_succ]; refine Or.inr (Or.inr ⟨2, ?_, ?_⟩); (exact rfl); (repeat refine And.intro (by first | rfl | decide) ?_); refine V _ ?_; clear V K0; simp only [put, app, Z, ae, zE, zS, D])
 (refine ab rfl fun K0 V => ?_; simp only [zE, op1, ev, lkp, ah, ag, aZ, Nat.mul_one, am, aO, aI, acs, Ty.size, Ty.dflt, zG, reduceCtorEq, E, D, J, S, M, O, Try.st25, Try.td25, Dfa.av, List.getD_cons_zero, List.getD_cons_succ]; (repeat refine And.intro (by first | omega | assumption | exact rfl) ?_); refine V _ ?_; clear V K0; simp only [put, app, Z, ae, zE, zS, D])
 refine ai ?_
 refine ⟨by kernel_rfl, ?_⟩
 refine hK2 _ ?_; clear hK2; refine ad [0, 1, 2, 3] ?_; simp only [U, lkp, zE, reduceCtorEq, E, Y, D]
 refine aa fun K3 hK3 => ?_
 refine aa fun K4 hK4 => ?_
 refine af hP hN rfl ?_
 (refine ab rfl fun K0 V => ?_; simp only [zE, op1, ev, lkp, ah, ag, ev, reduceCtorEq, E, D, J, S, M, O, Try.td3, Dfa.av, List.getD_cons_zero, List.getD_cons_succ]; refine V _ ?_; clear V K0; simp only [put, app, Z, ae, zE, zS, D])
 refine ai ?_
 refine hK4 _ ?_; clear hK4; refine ad [0, 1, 2, 3, 4] ?_; simp only [U, lkp, zE, reduceCtorEq, E, Y, D]
 refine aN ?_
 refine cQ (n := 3) (L1 := [_, _, _]) rfl rfl (by rw [hB]; decide) rfl rfl ?_
 refine fP 2 2 (.list (.int .i64)) 26 (by decide) rfl rfl ?_; simp only [zS, List.length_cons, List.length_nil, List.cons_append, List.nil_append, Nat.zero_add, D]
 refine bo (fun n5 s5 => ∃ (k : Nat) (v : Nat), (k ≤ d.nx.length) ∧ n5 = d.nx.length - k ∧ s5 = { env := [(1, .one (.ptr 0 0 0 0)), (2, .one (.ptr 1 0 0 0)), (3, .one (.ptr 2 1 0 0)), (4, .one (.int .i64 (k : Int)))], L := [.vars 25 [.int .i64 d.inp, .int .i64 d.st, .list (.list (.int .i64)) d.nx, .list .bool d.acc], .vars 25 [.int .i64 0, .int .i64 0, .nils, .nils], .rowc 25 4 1 [.int .i64 d.inp, .int .i64 d.st, .row 3 v, .list .bool d.acc], .row (.list (.int .i64)) 26 v (d.nx.take k)] }) ?_ ?_
 ·exact ⟨_, _, aJ [1, 2, 3, 4], 0, 0, Nat.zero_le _, rfl, rfl⟩
 ·rintro n5 s5 ⟨k, v, hk, rfl, rfl⟩
  refine aa fun K6 hK6 => ?_
  refine aa fun K7 hK7 => ?_
  refine af hP hN rfl ?_
  iterate 5 (refine ab rfl fun K0 V => ?_; simp only [zE, op1, ev, lkp, ah, ag, ao, ay, Nat.mul_one, aw, ax, acs, Ty.dflt, zG, ak, aE, bj, ba, aU, aV, bg, Nat.div_one, aM, aX, Ty.size, aI, dite_true, aB, aD, aC, aq, az, aP, reduceCtorEq, E, D, J, S, M, O, Try.el22, Try.st25, Try.td2, Try.td22, Try.td25, Try.td3, Try.td4, Dfa.av, List.getD_cons_zero, List.getD_cons_succ]; (repeat refine And.intro (by first | omega | assumption | exact rfl) ?_); (first | refine V _ ?_ | refine Or.inl (V _ ?_)); clear V K0; simp only [put, app, Z, ae, zE, zS, D])
  refine ai ?_
  refine hK7 _ ?_; clear hK7; refine ad [1, 2, 3, 4, 18] ?_; simp only [U, lkp, zE, reduceCtorEq, E, Y, D]
  refine aA (by simp only [ev, U, lkp, zE, reduceCtorEq, E, Y, D]; exact rfl) (fun hc8 => ?_) (fun hc8 => ?_)
  ·(try simp only [zB, reduceCtorEq] at hc8)
   refine aG ?_
   refine hK6 _ ?_; clear hK6; refine ad [1, 2, 3, 4, 18] ?_; simp only [U, lkp, zE, reduceCtorEq, E, Y, D]
   refine aa fun K9 hK9 => ?_
   refine aN ?_
   refine eB ?_; simp only [List.cons_append, List.append_assoc, List.nil_append]
   have hrl : ((d.nx.getD k []).length : Int) = d.inp := hd.rl k (by omega)
   refine bP hP hN Try.mixed rfl ?_
   iterate 2 (refine ab rfl fun K0 V => ?_; simp only [zE, op1, ev, lkp, ah, ag, ao, ay, Nat.mul_one, aw, ax, acs, Ty.dflt, zG, ak, reduceCtorEq, E, D, J, S, M, O, Try.el22, Try.st25, Try.td2, Try.td22, Try.td25, Dfa.av, List.getD_cons_zero, List.getD_cons_succ, List.length_take, List.length_cons, List.length_nil]; (repeat refine And.intro (by first | omega | assumption | exact rfl) ?_); refine V _ ?_; clear V K0; simp only [put, app, Z, ae, zE, zS, D])
   (refine ab rfl fun K0 V => ?_; simp only [zE, op1, ev, lkp, ah, ag, bb, b0, bQ, rep, aI, aO, am, Ty.size, reduceCtorEq, E, D, J, S, M, O, Try.el26, Try.td26, Dfa.av, List.getD_cons_zero, List.getD_cons_succ, List.length_take, List.length_cons, List.length_nil]; (repeat refine And.intro (by first | omega | assumption | exact rfl) ?_); refine Or.inr (Or.inr ⟨4, by exact rfl, ?_⟩); refine V _ ?_; clear V K0; simp only [put, app, Z, ae, zE, zS, D])
   iterate 5 (refine ab rfl fun K0 V => ?_; simp only [zE, op1, ev, lkp, ah, ag, ao, ay, Nat.mul_one, aw, ax, acs, Ty.dflt, zG, ak, aK, Ty.size, ne_eq, not_false_eq_true, Int.natCast_one, Int.mul_one, reduceCtorEq, E, D, J, S, M, O, Try.el22, Try.el26, Try.st25, Try.td2, Try.td22, Try.td25, Try.td26, Try.td3, Dfa.av, List.getD_cons_zero, List.getD_cons_succ, List.length_take, List.length_cons, List.length_nil]; (repeat refine And.intro (by first | omega | assumption | exact rfl) ?_); refine V _ ?_; clear V K0; simp only [put, app, Z, ae, zE, zS, D])
   (refine ab rfl fun K0 V => ?_; simp only [zE, op1, ev, lkp, ah, ag, aE, bj, ba, aU, aV, bg, Nat.div_one, aM, aX, Ty.size, aI, dite_true, reduceCtorEq, E, D, J, S, M, O, Try.el26, Try.td26, Dfa.av, List.getD_cons_zero, List.getD_cons_succ, List.length_take, List.length_cons, List.length_nil]; (repeat refine And.intro (by first | omega | assumption | exact rfl) ?_); refine Or.inr (V _ ?_); clear V K0; simp only [put, app, Z, ae, zE, zS, D])
   iterate 4 (refine ab rfl fun K0 V => ?_; simp only [zE, op1, ev, lkp, ah, ag, bb, b0, bQ, rep, aI, aO, am, Ty.size, aE, bj, ba, aU, aV, bg, Nat.div_one, aM, aX, dite_true, ao, aZ, Nat.mul_one, acs, Ty.dflt, zG, reduceCtorEq, E, D, J, S, M, O, Try.el22, Try.st25, Try.td1, Try.td2, Try.td22, Try.td25, Dfa.av, List.getD_cons_zero, List.getD_cons_succ, List.length_take, List.length_cons, List.length_nil]; (repeat refine And.intro (by first | omega | assumption | exact rfl) ?_); (first | refine V _ ?_ | refine Or.inl (V _ ?_)); clear V K0; simp only [put, app, Z, ae, zE, zS, D])
   refine ai ?_
   refine ⟨by kernel_rfl, ?_⟩
   refine hK9 _ ?_; clear hK9; refine ad [1, 2, 3, 4, 18] ?_; simp only [U, lkp, zE, reduceCtorEq, E, Y, D]
   refine cQ (n := 4) (L1 := [_, _, _, _]) rfl rfl (by rw [hB]; decide) rfl rfl ?_
   refine af hP hN rfl ?_
   iterate 3 (refine ab rfl fun K0 V => ?_; simp only [zE, op1, ev, lkp, ah, ag, aB, aD, aC, aq, az, aP, reduceCtorEq, E, D, J, S, M, O, Try.td3, Dfa.av, List.getD_cons_zero, List.getD_cons_succ]; (repeat refine And.intro (by first | omega | assumption | exact rfl) ?_); refine V _ ?_; clear V K0; simp only [put, app, Z, ae, zE, zS, D])
   refine ai ?_
   refine ⟨_, _, ?_, aJ [1, 2, 3, 4], k + 1, v + 1, by omega, rfl, ?_⟩
   · omega
   · rw [fO [] (by omega)]; rfl
  ·(try simp only [zB, reduceCtorEq] at hc8)
   refine bm ?_
   refine hK3 _ ?_; clear hK3; refine ad [1, 2, 3, 4, 18] ?_; simp only [U, lkp, zE, reduceCtorEq, E, Y, D]
   refine aa fun K10 hK10 => ?_
   refine eZ 3 2 rfl rfl ?_; simp only [List.map_cons, List.map_nil, frC, zS, E, and_self, and_true, true_and, and_false, false_and, if_true, if_false, eq_self, reduceCtorEq, Nat.one_ne_zero, Nat.zero_ne_one]
   obtain rfl : k = d.nx.length := by omega
   rw [List.take_length]
   refine af hP hN rfl ?_
   iterate 2 (refine ab rfl fun K0 V => ?_; simp only [zE, op1, ev, lkp, ah, ag, ay, Nat.mul_one, aw, ax, acs, Ty.dflt, zG, ak, aZ, am, aO, aI, Ty.size, reduceCtorEq, E, D, J, S, M, O, Try.st25, Try.td25, Dfa.av, List.getD_cons_zero, List.getD_cons_succ]; (repeat refine And.intro (by first | omega | assumption | exact rfl) ?_); refine V _ ?_; clear V K0; simp only [put, app, Z, ae, zE, zS, D])
   refine ai ?_
   refine hK10 _ ?_; clear hK10; refine ad [1, 2, 3, 4, 18] ?_; simp only [U, lkp, zE, reduceCtorEq, E, Y, D]
   refine aH ?_
   refine ⟨by first | exact .inl rfl | exact .inr rfl, _, rfl, ?_⟩; simp only [fzV, fz1, fzC, List.map_cons, List.map_nil, U, lkp, zE, reduceCtorEq, E, Y, D, Dfa.av, List.getD_cons_zero, List.getD_cons_succ]
   exact VLE.of_eq rfl
end Go.Proofs.Ytdkgcbhbpdbmnaa
