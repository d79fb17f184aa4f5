/- Contracts of functions of this seat, each out of a walk through its code, and plain facts on what they compute. Conditions: those that each theorem names. -/
import Derived.Test.YtceafldjjedhcaaDoorW03
set_option linter.unusedSimpArgs false
set_option linter.unusedVariables false
namespace Go.Proofs.YtceafldjjedhcaaDoor
open Go Go.AV
open Nat renaming reduceEqDiff → J, reduceAdd → E, reduceLeDiff → U, reduceLT → Z, reduceMul → V, reduceSub → Y
open List renaming set_cons_zero → aw, set_cons_succ → au
set_option maxRecDepth 100000 in
theorem wj  : cq Tryd.prog 73 [.one (.int .i64 36)] (.one (.bool false)) := by
 refine bt Tryd.func73 rfl (by kernel_rfl) (Nat.le_of_ble_eq_true rfl) rfl fun C hP hN hB => ?_
 replace hN : C.N = 8 := hN
 simp only [ae, E]
 refine ah fun K1 hK1 => ?_
 refine ao hP hN rfl ?_
 (refine ag rfl fun K0 aa => ?_; simp only [zE, op1, ev, lkp, am, ak, ev, reduceCtorEq, J, E, U, Z, V, Y, Tryd.td4]; refine aa _ ?_; clear aa K0; simp only [put, app, af, aj, zE, zS, E])
 refine aq ?_
 refine hK1 _ ?_; clear hK1; refine ai [0, 2] ?_; simp only [ad, lkp, zE, reduceCtorEq, J, ae, E]
 refine ah fun K2 hK2 => ?_
 refine ao hP hN rfl ?_
 iterate 6 (refine ag rfl fun K0 aa => ?_; simp only [zE, op1, ev, lkp, am, ak, aJ, aK, aI, ay, aH, aX, reduceCtorEq, J, E, U, Z, V, Y, Tryd.td3, Tryd.td4]; (repeat refine And.intro (by first | omega | assumption | exact rfl) ?_); refine aa _ ?_; clear aa K0; simp only [put, app, af, aj, zE, zS, E])
 refine aq ?_
 refine hK2 _ ?_; clear hK2; refine ai [0, 2] ?_; simp only [ad, lkp, zE, reduceCtorEq, J, ae, E]
 refine aU ?_
 refine ⟨by first | exact .inl rfl | exact .inr rfl, _, rfl, ?_⟩; simp only [fzV, fz1, fzC, List.map_cons, List.map_nil, ad, lkp, zE, reduceCtorEq, J, ae, E]
 refine VLE.of_eq ?_
 refine congrArg (fun b => AV.one (AC.bool b)) ?_
 decide
end Go.Proofs.YtceafldjjedhcaaDoor
namespace Go.Proofs.YtceafldjjedhcaaDoor
open Go Go.AV
open Nat renaming reduceEqDiff → J, reduceAdd → E, reduceLeDiff → U, reduceLT → Z, reduceMul → V, reduceSub → Y
open List renaming set_cons_zero → aw, set_cons_succ → au
set_option maxRecDepth 100000 in
set_option maxHeartbeats 1000000 in
theorem vC (n v : Nat) (xs : List Int) (hn : n < 1679616) (hx : xs.length ≤ 1000000000) : fb Tryd.prog [.row (.int .u8) 5 v xs] 69 [.one (.row 0 v), .one (.int .u64 (n : Int)), .one (.int .i64 36), .one (.bool false), .one (.bool true)] { av := .tup [.one (.row 0 (v + 1)), .one (.str [])], upd := [(0, .row (.int .u8) 5 (v + 1) (xs ++ d36 n))], new := [.dead 0], fp := [0] } := by
 refine eV _ _ Tryd.func69 rfl (by kernel_rfl) (Nat.le_of_ble_eq_true rfl) (by intro k hk; simp only [List.length_cons, List.length_nil, Nat.zero_add, E] at hk; simp only [List.mem_cons, List.not_mem_nil, or_false]; omega) (fun C hP hN hB => ?_)
 replace hB : C.bL.length = 1 := by rw [hB]; rfl
 replace hN : C.N = 102 := hN
 simp only [ae, E]
 refine ah fun K1 hK1 => ?_
 refine ao hP hN rfl ?_
 iterate 2 (refine ag rfl fun K0 aa => ?_; simp only [zE, op1, ev, lkp, am, ak, ev, reduceCtorEq, J, E, U, Z, V, Y, Tryd.el95, Tryd.td9, Tryd.td95, ca, cz, cA]; refine aa _ ?_; clear aa K0; simp only [put, app, af, aj, zE, zS, E])
 refine aq ?_
 refine hK1 _ ?_; clear hK1; refine ai [0, 1, 2, 3, 4, 10, 11] ?_; simp only [ad, lkp, zE, reduceCtorEq, J, ae, E]
 refine ah fun K2 hK2 => ?_
 refine ah fun K3 hK3 => ?_
 refine ao hP hN rfl ?_
 iterate 2 (refine ag rfl fun K0 aa => ?_; simp only [zE, op1, ev, lkp, am, ak, aJ, aK, aI, ay, aH, aX, reduceCtorEq, J, E, U, Z, V, Y, Tryd.td3, Tryd.td4, ca, cz, cA]; (repeat refine And.intro (by first | omega | assumption | exact rfl) ?_); refine aa _ ?_; clear aa K0; simp only [put, app, af, aj, zE, zS, E])
 (refine ag rfl fun K0 aa => ?_; simp only [zE, op1, ev, lkp, am, ak, ev, reduceCtorEq, J, E, U, Z, V, Y, Tryd.td4, ca, cz, cA]; refine aa _ ?_; clear aa K0; simp only [put, app, af, aj, zE, zS, E])
 refine' bn (want := false) 2 rfl (m := 21) (by simp only [ad, lkp, zE, reduceCtorEq, J, ae, E]; exact rfl) (by kernel_rfl) rfl rfl rfl rfl rfl (fun hg4 => ?a4) ?b4 ?c4
 case a4 =>
  have hq4 := hg4; (try simp only [zB, reduceCtorEq] at hg4); simp only [List.take_succ_cons, List.take_zero, List.cons_append, List.nil_append]
  (refine aG rfl fun K0 aa => ?_; simp only [zE, op1, ev, lkp, am, ak, ev, reduceCtorEq, J, E, U, Z, V, Y, Tryd.td3, ca, cz, cA]; refine aa _ ?_; clear aa K0; simp only [put, app, af, aj, zE, zS, E])
  (refine aG rfl fun K0 aa => ?_; simp only [zE, op1, ev, lkp, am, ak, aJ, aK, aI, ay, aH, aX, reduceCtorEq, J, E, U, Z, V, Y, Tryd.td3, Tryd.td4, ca, cz, cA]; (repeat refine And.intro (by first | omega | assumption | exact rfl) ?_); refine aa _ ?_; clear aa K0; simp only [put, app, af, aj, zE, zS, E])
  (refine ag rfl fun K0 aa => ?_; simp only [zE, op1, ev, lkp, am, ak, bU, reduceCtorEq, J, E, U, Z, V, Y, Tryd.td4, ca, cz, cA]; refine aa _ ?_; clear aa K0; simp only [put, app, af, aj, zE, zS, E])
  refine aq ?_
  refine ⟨by simp only [ad, lkp, zE, reduceCtorEq, J, ae, E]; exact rfl, rfl, ?_, rfl⟩; (repeat refine bo rfl ?_); exact bY (by exact rfl) hq4
 case b4 => exact bV (by first | rfl | (simp [cD]; done) | decide)
 simp only [bM, bB]
 (refine ag rfl fun K0 aa => ?_; simp only [zE, op1, ev, lkp, am, ak, ev, reduceCtorEq, J, E, U, Z, V, Y, Tryd.td4, ca, cz, cA]; refine aa _ ?_; clear aa K0; simp only [put, app, af, aj, zE, zS, E])
 refine' bn (want := false) 2 rfl (m := 25) (by simp only [ad, lkp, zE, reduceCtorEq, J, ae, E]; exact rfl) (by kernel_rfl) rfl rfl rfl rfl rfl (fun hg5 => ?a5) ?b5 ?c5
 case a5 =>
  have hq5 := hg5; (try simp only [zB, reduceCtorEq] at hg5); simp only [List.take_succ_cons, List.take_zero, List.cons_append, List.nil_append]
  (refine aG rfl fun K0 aa => ?_; simp only [zE, op1, ev, lkp, am, ak, ev, reduceCtorEq, J, E, U, Z, V, Y, Tryd.td3, ca, cz, cA]; refine aa _ ?_; clear aa K0; simp only [put, app, af, aj, zE, zS, E])
  (refine aG rfl fun K0 aa => ?_; simp only [zE, op1, ev, lkp, am, ak, aJ, aK, aI, ay, aH, aX, reduceCtorEq, J, E, U, Z, V, Y, Tryd.td3, Tryd.td4, ca, cz, cA]; (repeat refine And.intro (by first | omega | assumption | exact rfl) ?_); refine aa _ ?_; clear aa K0; simp only [put, app, af, aj, zE, zS, E])
  (refine ag rfl fun K0 aa => ?_; simp only [zE, op1, ev, lkp, am, ak, bU, reduceCtorEq, J, E, U, Z, V, Y, Tryd.td4, ca, cz, cA]; refine aa _ ?_; clear aa K0; simp only [put, app, af, aj, zE, zS, E])
  refine aq ?_
  refine ⟨by simp only [ad, lkp, zE, reduceCtorEq, J, ae, E]; exact rfl, rfl, ?_, rfl⟩; (repeat refine bo rfl ?_); exact bY (by exact rfl) hq5
 case b5 => exact bV (by first | rfl | (simp [cD]; done) | decide)
 simp only [bM, bB]
 refine aq ?_
 refine hK3 _ ?_; clear hK3; refine ai [0, 1, 2, 3, 4, 10, 11, 28] ?_; simp only [ad, lkp, zE, reduceCtorEq, J, ae, E]
 refine aL (by simp only [ev, ad, lkp, zE, reduceCtorEq, J, ae, E]; exact rfl) (fun hc6 => ?_) (fun hc6 => ?_)
 · exfalso; (try simp only [zB, reduceCtorEq] at hc6); all_goals (first | (cases hc6; done) | omega | (simp at hc6; done) | (simp_all; done))
 ·(try simp only [zB, reduceCtorEq] at hc6)
  refine aT ?_
  refine hK2 _ ?_; clear hK2; refine ai [0, 1, 2, 3, 4, 10, 11, 28] ?_; simp only [ad, lkp, zE, reduceCtorEq, J, ae, E]
  refine ah fun K7 hK7 => ?_
  refine ao hP hN rfl ?_
  (refine ag rfl fun K0 aa => ?_; simp only [zE, op1, ev, lkp, am, ak, cC, reduceCtorEq, J, E, U, Z, V, Y, Tryd.ea134, Tryd.sa134, Tryd.td134, ca, cz, cA]; (repeat refine And.intro (by first | omega | assumption | exact rfl) ?_); (first | refine aa _ ?_ | refine Or.inl (aa _ ?_)); clear aa K0; simp only [put, app, af, aj, zE, zS, E])
  refine aq ?_
  refine hK7 _ ?_; clear hK7; refine ai [0, 1, 2, 3, 4, 10, 11, 12, 28] ?_; simp only [ad, lkp, zE, reduceCtorEq, J, ae, E]
  refine ah fun K8 hK8 => ?_
  refine ao hP hN rfl ?_
  (refine ag rfl fun K0 aa => ?_; simp only [zE, op1, ev, lkp, am, ak, ev, reduceCtorEq, J, E, U, Z, V, Y, Tryd.td3, ca, cz, cA]; refine aa _ ?_; clear aa K0; simp only [put, app, af, aj, zE, zS, E])
  refine aq ?_
  refine hK8 _ ?_; clear hK8; refine ai [0, 1, 2, 3, 4, 10, 11, 12, 13, 28] ?_; simp only [ad, lkp, zE, reduceCtorEq, J, ae, E]
  refine ah fun K9 hK9 => ?_
  refine ah fun K10 hK10 => ?_
  refine ao hP hN rfl ?_
  (refine ag rfl fun K0 aa => ?_; simp only [zE, op1, ev, lkp, am, ak, ev, reduceCtorEq, J, E, U, Z, V, Y, Tryd.td4, ca, cz, cA]; refine aa _ ?_; clear aa K0; simp only [put, app, af, aj, zE, zS, E])
  refine aq ?_
  refine hK10 _ ?_; clear hK10; refine ai [0, 1, 2, 3, 4, 10, 11, 12, 13, 28, 30] ?_; simp only [ad, lkp, zE, reduceCtorEq, J, ae, E]
  refine aL (by simp only [ev, ad, lkp, zE, reduceCtorEq, J, ae, E]; exact rfl) (fun hc11 => ?_) (fun hc11 => ?_)
  · exfalso; (try simp only [zB, reduceCtorEq] at hc11); all_goals (first | (cases hc11; done) | omega | (simp at hc11; done) | (simp_all; done))
  ·(try simp only [zB, reduceCtorEq] at hc11)
   refine aT ?_
   refine hK9 _ ?_; clear hK9; refine ai [0, 1, 2, 3, 4, 10, 11, 12, 13, 28, 30] ?_; simp only [ad, lkp, zE, reduceCtorEq, J, ae, E]
   refine ah fun K12 hK12 => ?_
   refine ah fun K13 hK13 => ?_
   refine ao hP hN rfl ?_
   (refine ag rfl fun K0 aa => ?_; simp only [zE, op1, ev, lkp, am, ak, ev, reduceCtorEq, J, E, U, Z, V, Y, Tryd.td3, ca, cz, cA]; refine aa _ ?_; clear aa K0; simp only [put, app, af, aj, zE, zS, E])
   refine ag rfl fun K0 aa => ?_
   refine aW (h := aF wj) rfl rfl (by first | exact rfl | (simp only [ev, ad, lkp, zE, reduceCtorEq, J, ae, E]; exact rfl)) (by simp only [zE, zG, op1, ev, lkp, am, ak, ax, acs, bf, mv1, mvC, Ty.dflt, reduceCtorEq, J, E, U, Z, V, Y, ca, cz, cA]) ?_
   refine aa _ ?_; clear aa K0; simp only [put, app, af, aj, zE, zS, E]
   refine aq ?_
   refine hK13 _ ?_; clear hK13; refine ai [0, 1, 2, 3, 4, 10, 11, 12, 13, 28, 30, 34] ?_; simp only [ad, lkp, zE, reduceCtorEq, J, ae, E]
   refine aL (by simp only [ev, ad, lkp, zE, reduceCtorEq, J, ae, E]; exact rfl) (fun hc14 => ?_) (fun hc14 => ?_)
   · exfalso; (try simp only [zB, reduceCtorEq] at hc14); all_goals (first | (cases hc14; done) | omega | (simp at hc14; done) | (simp_all; done))
   ·(try simp only [zB, reduceCtorEq] at hc14)
    refine ah fun K15 hK15 => ?_
    refine ao hP hN rfl ?_
    iterate 3 (refine ag rfl fun K0 aa => ?_; simp only [zE, op1, ev, lkp, am, ak, fS, reduceCtorEq, J, E, U, Z, V, Y, Tryd.td111, Tryd.td3, ca, cz, cA]; (repeat refine And.intro (by first | omega | assumption | exact rfl) ?_); refine aa _ ?_; clear aa K0; simp only [put, app, af, aj, zE, zS, E])
    refine aq ?_
    refine hK15 _ ?_; clear hK15; refine ai [0, 1, 2, 3, 4, 10, 11, 12, 13, 17, 28, 30, 34] ?_; simp only [ad, lkp, zE, reduceCtorEq, J, ae, E]
    refine ah fun K16 hK16 => ?_
    refine b8 ?_
    refine cj (fun n17 s17 => ∃ (u : Nat) (j : Nat) (l : List Int), (BUF n u j l) ∧ n17 = u + 1 ∧ s17 = { env := [(0, .one (.row 0 v)), (1, .one (.int .u64 (u : Int))), (3, .one (.bool false)), (4, .one (.bool true)), (10, .one .nils), (11, .one (.str [])), (12, .one (.ptr 1 0 0 0)), (13, .one (.int .i64 (65 - (j : Int)))), (17, .one (.int .u64 36))], L := [.row (.int .u8) 5 v xs, .vars 134 (bcl l)] }) ?_ ?_
    ·exact ⟨_, _, aY [0, 1, 3, 4, 10, 11, 12, 13, 17], n, 0, List.replicate 65 0, x6 hn, rfl, rfl⟩
    ·rintro n17 s17 ⟨u, j, l, hbf, rfl, rfl⟩
     refine ah fun K18 hK18 => ?_
     refine ah fun K19 hK19 => ?_
     refine ao hP hN rfl ?_
     iterate 3 (refine ag rfl fun K0 aa => ?_; simp only [zE, op1, ev, lkp, am, ak, aJ, aK, aI, ay, aH, aX, reduceCtorEq, J, E, U, Z, V, Y, Tryd.td111, Tryd.td4, ca, cz, cA]; (repeat refine And.intro (by first | omega | assumption | exact rfl) ?_); refine aa _ ?_; clear aa K0; simp only [put, app, af, aj, zE, zS, E])
     refine aq ?_
     refine hK19 _ ?_; clear hK19; refine ai [0, 1, 3, 4, 10, 11, 12, 13, 17, 68] ?_; simp only [ad, lkp, zE, reduceCtorEq, J, ae, E]
     refine aL (by simp only [ev, ad, lkp, zE, reduceCtorEq, J, ae, E]; exact rfl) (fun hc20 => ?_) (fun hc20 => ?_)
     ·(try simp only [zB, reduceCtorEq] at hc20)
      refine aT ?_
      refine hK18 _ ?_; clear hK18; refine ai [0, 1, 3, 4, 10, 11, 12, 13, 17, 68] ?_; simp only [ad, lkp, zE, reduceCtorEq, J, ae, E]
      refine b8 ?_
      refine ah fun K21 hK21 => ?_
      have hbu := oU hbf.b; have hbl := hbf.len; have hu36 : 36 ≤ u := by omega
      have hq1 : (u : Int).tdiv 36 = ((u / 36 : Nat) : Int) := by rw [Int.tdiv_eq_ediv_of_nonneg (by omega)]; omega
      refine ao hP hN rfl ?_
      iterate 3 (refine ag rfl fun K0 aa => ?_; simp only [zE, op1, ev, lkp, am, ak, aJ, aK, aI, ay, aH, aX, reduceCtorEq, J, E, U, Z, V, Y, Tryd.td3, ca, cz, cA]; (repeat refine And.intro (by first | omega | assumption | exact rfl) ?_); refine aa _ ?_; clear aa K0; simp only [put, app, af, aj, zE, zS, E])
      refine aq ?_
      refine hK21 _ ?_; clear hK21; refine ai [0, 1, 3, 4, 10, 11, 12, 13, 17, 68] ?_; simp only [ad, lkp, zE, reduceCtorEq, J, ae, E]
      refine ah fun K22 hK22 => ?_
      refine ao hP hN rfl ?_
      iterate 4 (refine ag rfl fun K0 aa => ?_; simp only [zE, op1, ev, lkp, am, ak, aJ, aK, aI, ay, aH, aX, reduceCtorEq, J, E, U, Z, V, Y, Tryd.td111, ca, cz, cA, hq1]; (repeat refine And.intro (by first | omega | assumption | exact rfl) ?_); refine aa _ ?_; clear aa K0; simp only [put, app, af, aj, zE, zS, E])
      refine aq ?_
      refine hK22 _ ?_; clear hK22; refine ai [0, 1, 3, 4, 10, 11, 12, 13, 17, 18, 68] ?_; simp only [ad, lkp, zE, reduceCtorEq, J, ae, E]
      refine ah fun K23 hK23 => ?_
      have hix : ((65 : Int) - (j : Int) - 1).toNat = 64 - j := by omega
      have hsb : (u : Int) - ((u / 36 : Nat) : Int) * 36 = ((u % 36 : Nat) : Int) := by omega
      have hw : ∀ c, aR (bcl l) (64 - j) [.int .u8 c] = bcl (l.set (64 - j) c) := fun c => mI (by omega) c
      refine ao hP hN rfl ?_
      iterate 9 (refine ag rfl fun K0 aa => ?_; simp only [zE, op1, ev, lkp, am, ak, aJ, aK, aI, ay, aH, aX, jz, aC, aD, acs, aS, zG, Ty.dflt, Ty.size, Nat.mul_one, ne_eq, not_false_eq_true, Int.natCast_one, Int.mul_one, bJ, ax, aM, reduceCtorEq, J, E, U, Z, V, Y, Tryd.ea134, Tryd.sa134, Tryd.td111, Tryd.td134, Tryd.td3, Tryd.td5, Tryd.td9, ca, cz, cA, hix, hsb, hw, Int.toNat_natCast]; (repeat refine And.intro (by first | omega | assumption | exact rfl) ?_); refine aa _ ?_; clear aa K0; simp only [put, app, af, aj, zE, zS, E])
      refine aq ?_
      refine hK23 _ ?_; clear hK23; refine ai [0, 1, 3, 4, 10, 11, 12, 13, 17, 18, 68] ?_; simp only [ad, lkp, zE, reduceCtorEq, J, ae, E]
      refine ao hP hN rfl ?_
      iterate 2 (refine ag rfl fun K0 aa => ?_; simp only [zE, op1, ev, lkp, am, ak, ev, reduceCtorEq, J, E, U, Z, V, Y, Tryd.td111, ca, cz, cA]; refine aa _ ?_; clear aa K0; simp only [put, app, af, aj, zE, zS, E])
      refine aq ?_
      refine ⟨_, _, ?_, aY [0, 1, 3, 4, 10, 11, 12, 13, 17], u / 36, j + 1, l.set (64 - j) (c36 (u % 36)), u3 hbf hu36, rfl, ?_⟩
      · omega
      · rw [show (65 : Int) - (j : Int) - 1 = 65 - ((j + 1 : Nat) : Int) by omega]; rfl
     ·(try simp only [zB, reduceCtorEq] at hc20)
      refine cm ?_
      refine hK16 _ ?_; clear hK16; refine ai [0, 1, 3, 4, 10, 11, 12, 13, 17, 68] ?_; simp only [ad, lkp, zE, reduceCtorEq, J, ae, E]
      refine ah fun K24 hK24 => ?_
      have hbu := oU hbf.b; have hbl := hbf.len
      refine ao hP hN rfl ?_
      iterate 3 (refine ag rfl fun K0 aa => ?_; simp only [zE, op1, ev, lkp, am, ak, aJ, aK, aI, ay, aH, aX, reduceCtorEq, J, E, U, Z, V, Y, Tryd.td3, ca, cz, cA]; (repeat refine And.intro (by first | omega | assumption | exact rfl) ?_); refine aa _ ?_; clear aa K0; simp only [put, app, af, aj, zE, zS, E])
      refine aq ?_
      refine hK24 _ ?_; clear hK24; refine ai [0, 1, 3, 4, 10, 11, 12, 13, 17, 68] ?_; simp only [ad, lkp, zE, reduceCtorEq, J, ae, E]
      have hix : ((65 : Int) - (j : Int) - 1).toNat = 64 - j := by omega
      have hw : ∀ c, aR (bcl l) (64 - j) [.int .u8 c] = bcl (l.set (64 - j) c) := fun c => mI (by omega) c
      refine ao hP hN rfl ?_
      iterate 5 (refine ag rfl fun K0 aa => ?_; simp only [zE, op1, ev, lkp, am, ak, jz, aC, aD, acs, aS, zG, Ty.dflt, Ty.size, Nat.mul_one, ne_eq, not_false_eq_true, Int.natCast_one, Int.mul_one, bJ, ax, aM, reduceCtorEq, J, E, U, Z, V, Y, Tryd.ea134, Tryd.sa134, Tryd.td111, Tryd.td134, Tryd.td3, Tryd.td5, Tryd.td9, ca, cz, cA, hix, hw, Int.toNat_natCast]; (repeat refine And.intro (by first | omega | assumption | exact rfl) ?_); refine aa _ ?_; clear aa K0; simp only [put, app, af, aj, zE, zS, E])
      refine aq ?_
      refine hK12 _ ?_; clear hK12; refine ai [0, 1, 3, 4, 10, 11, 12, 13, 17, 68] ?_; simp only [ad, lkp, zE, reduceCtorEq, J, ae, E]
      refine ah fun K25 hK25 => ?_
      refine ah fun K26 hK26 => ?_
      refine ao hP hN rfl ?_
      (refine ag rfl fun K0 aa => ?_; simp only [zE, op1, ev, lkp, am, ak, ev, reduceCtorEq, J, E, U, Z, V, Y, Tryd.td4, ca, cz, cA]; refine aa _ ?_; clear aa K0; simp only [put, app, af, aj, zE, zS, E])
      refine aq ?_
      refine hK26 _ ?_; clear hK26; refine ai [0, 1, 3, 4, 10, 11, 12, 13, 17, 68, 89] ?_; simp only [ad, lkp, zE, reduceCtorEq, J, ae, E]
      refine aL (by simp only [ev, ad, lkp, zE, reduceCtorEq, J, ae, E]; exact rfl) (fun hc27 => ?_) (fun hc27 => ?_)
      · exfalso; (try simp only [zB, reduceCtorEq] at hc27); all_goals (first | (cases hc27; done) | omega | (simp at hc27; done) | (simp_all; done))
      ·(try simp only [zB, reduceCtorEq] at hc27)
       refine aT ?_
       refine hK25 _ ?_; clear hK25; refine ai [0, 1, 3, 4, 10, 11, 12, 13, 17, 68, 89] ?_; simp only [ad, lkp, zE, reduceCtorEq, J, ae, E]
       refine ah fun K28 hK28 => ?_
       refine ah fun K29 hK29 => ?_
       refine ao hP hN rfl ?_
       (refine ag rfl fun K0 aa => ?_; simp only [zE, op1, ev, lkp, am, ak, ev, reduceCtorEq, J, E, U, Z, V, Y, Tryd.td4, ca, cz, cA]; refine aa _ ?_; clear aa K0; simp only [put, app, af, aj, zE, zS, E])
       refine aq ?_
       refine hK29 _ ?_; clear hK29; refine ai [0, 1, 3, 4, 10, 11, 12, 13, 17, 68, 89, 94] ?_; simp only [ad, lkp, zE, reduceCtorEq, J, ae, E]
       refine aL (by simp only [ev, ad, lkp, zE, reduceCtorEq, J, ae, E]; exact rfl) (fun hc30 => ?_) (fun hc30 => ?_)
       ·(try simp only [zB, reduceCtorEq] at hc30)
        refine ah fun K31 hK31 => ?_
        refine dO 1 (iq .u8 (l.set (64 - j) (c36 u)).length) rfl (show aM (iq .u8 (l.set (64 - j) (c36 u)).length) (bcl (l.set (64 - j) (c36 u))) = some (mq .u8 (l.set (64 - j) (c36 u))) from mK _) ?_; simp only [List.map_cons, List.map_nil, shV, if_true, zS, if_false, eq_self, J, reduceCtorEq, Nat.one_ne_zero, Nat.zero_ne_one]
        have hix : ((65 : Int) - (j : Int) - 1).toNat = 64 - j := by omega
        have hl65 : (l.set (64 - j) (c36 u)).length = 65 := by simpa using hbl
        have htk : List.drop (64 - j) (List.take (l.set (64 - j) (c36 u)).length (l.set (64 - j) (c36 u))) = d36 n := by rw [List.take_length]; exact (tT hbf (by omega)).symm
        have hdl := ma (n := n)
        refine ao hP hN rfl ?_
        iterate 2 (refine ag rfl fun K0 aa => ?_; simp only [zE, op1, ev, lkp, am, ak, ev, reduceCtorEq, J, E, U, Z, V, Y, Tryd.el95, Tryd.td3, Tryd.td95, ca, cz, cA, hix, htk]; refine aa _ ?_; clear aa K0; simp only [put, app, af, aj, zE, zS, E, hix, htk])
        (refine ag rfl fun K0 aa => ?_; simp only [zE, op1, ev, lkp, am, ak, i6, bnd, Ty.size, reduceCtorEq, J, E, U, Z, V, Y, Tryd.ea134, Tryd.el95, Tryd.sa134, Tryd.td134, Tryd.td95, ca, cz, cA, hix, htk]; refine ⟨.u8, l.set (64 - j) (c36 u), 5, _, _, _, rfl, by rw [hl65], Tryd.td5, rfl, rfl, rfl, by omega, aa _ ?_⟩; clear aa K0; simp only [put, app, af, aj, zE, zS, E, hix, htk])
        iterate 2 (refine ag rfl fun K0 aa => ?_; simp only [zE, op1, ev, lkp, am, ak, aP, bT, bC, bu, bv, bP, Nat.div_one, aV, bz, Ty.size, aM, dite_true, reduceCtorEq, J, E, U, Z, V, Y, Tryd.el95, Tryd.td95, ca, cz, cA, hix, htk]; (repeat refine And.intro (by first | omega | assumption | exact rfl) ?_); (first | refine aa _ ?_ | refine Or.inl (aa _ ?_)); clear aa K0; simp only [put, app, af, aj, zE, zS, E, hix, htk])
        refine aq ?_
        refine hK31 _ ?_; clear hK31; refine ai [0, 1, 3, 4, 10, 11, 12, 13, 17, 68, 89, 94] ?_; simp only [ad, lkp, zE, reduceCtorEq, J, ae, E]
        refine aU ?_
        refine ⟨by first | exact .inl rfl | exact .inr rfl, _, rfl, ?_⟩; simp only [ad, lkp, zE, reduceCtorEq, J, ae, E, ca, cz, cA]
        first | exact ⟨rfl, rfl⟩ | rfl
       · exfalso; (try simp only [zB, reduceCtorEq] at hc30); all_goals (first | (cases hc30; done) | omega | (simp at hc30; done) | (simp_all; done))
end Go.Proofs.YtceafldjjedhcaaDoor
namespace Go.Proofs.YtceafldjjedhcaaDoor
open Go Go.AV
open Nat renaming reduceEqDiff → J, reduceAdd → E, reduceLeDiff → U, reduceLT → Z, reduceMul → V, reduceSub → Y
open List renaming set_cons_zero → aw, set_cons_succ → au
set_option maxRecDepth 100000 in
theorem vu (n v : Nat) (xs : List Int) (hn : n < 1679616) (hx : xs.length ≤ 1000000000) : fb Tryd.prog [.row (.int .u8) 5 v xs] 59 [.one (.row 0 v), .one (.int .u64 (n : Int)), .one (.int .i64 36)] { av := .one (.row 0 (v + 1)), upd := [(0, .row (.int .u8) 5 (v + 1) (xs ++ d36 n))], new := [.dead 0], fp := [0] } := by
 refine eV _ _ Tryd.func59 rfl (by kernel_rfl) (Nat.le_of_ble_eq_true rfl) (by intro k hk; simp only [List.length_cons, List.length_nil, Nat.zero_add, E] at hk; simp only [List.mem_cons, List.not_mem_nil, or_false]; omega) (fun C hP hN hB => ?_)
 replace hB : C.bL.length = 1 := by rw [hB]; rfl
 replace hN : C.N = 36 := hN
 simp only [ae, E]
 refine ah fun K1 hK1 => ?_
 refine ao hP hN rfl ?_
 (refine ag rfl fun K0 aa => ?_; simp only [zE, op1, ev, lkp, am, ak, ev, reduceCtorEq, J, E, U, Z, V, Y, Tryd.el95, Tryd.td95]; refine aa _ ?_; clear aa K0; simp only [put, app, af, aj, zE, zS, E])
 refine aq ?_
 refine hK1 _ ?_; clear hK1; refine ai [0, 1, 2, 6] ?_; simp only [ad, lkp, zE, reduceCtorEq, J, ae, E]
 refine ah fun K2 hK2 => ?_
 refine ah fun K3 hK3 => ?_
 refine ao hP hN rfl ?_
 iterate 2 (refine ag rfl fun K0 aa => ?_; simp only [zE, op1, ev, lkp, am, ak, aJ, aK, aI, ay, aH, aX, reduceCtorEq, J, E, U, Z, V, Y, Tryd.td3, Tryd.td4]; (repeat refine And.intro (by first | omega | assumption | exact rfl) ?_); refine aa _ ?_; clear aa K0; simp only [put, app, af, aj, zE, zS, E])
 refine aq ?_
 refine hK3 _ ?_; clear hK3; refine ai [0, 1, 2, 6, 10] ?_; simp only [ad, lkp, zE, reduceCtorEq, J, ae, E]
 refine aL (by simp only [ev, ad, lkp, zE, reduceCtorEq, J, ae, E]; exact rfl) (fun hc4 => ?_) (fun hc4 => ?_)
 · exfalso; (try simp only [zB, reduceCtorEq] at hc4); all_goals (first | (cases hc4; done) | omega | (simp at hc4; done) | (simp_all; done))
 ·(try simp only [zB, reduceCtorEq] at hc4)
  refine aT ?_
  refine hK2 _ ?_; clear hK2; refine ai [0, 1, 2, 6, 10] ?_; simp only [ad, lkp, zE, reduceCtorEq, J, ae, E]
  refine ah fun K5 hK5 => ?_
  refine ao hP hN rfl ?_
  iterate 3 (refine ag rfl fun K0 aa => ?_; simp only [zE, op1, ev, lkp, am, ak, ev, reduceCtorEq, J, E, U, Z, V, Y, Tryd.el95, Tryd.td111, Tryd.td3, Tryd.td95]; refine aa _ ?_; clear aa K0; simp only [put, app, af, aj, zE, zS, E])
  refine ag rfl fun K0 aa => ?_
  refine aW (h := vC n v xs hn hx) rfl rfl (by first | exact rfl | (simp only [ev, ad, lkp, zE, reduceCtorEq, J, ae, E]; exact rfl)) (by simp only [zE, zG, op1, ev, lkp, am, ak, ax, acs, bf, mv1, mvC, Ty.dflt, reduceCtorEq, J, E, U, Z, V, Y]) ?_
  refine aa _ ?_; clear aa K0; simp only [put, app, af, aj, zE, zS, E]
  iterate 4 (refine ag rfl fun K0 aa => ?_; simp only [zE, op1, ev, lkp, am, ak, bS, reduceCtorEq, J, E, U, Z, V, Y, Tryd.el95, Tryd.td1, Tryd.td9, Tryd.td95]; refine aa _ ?_; clear aa K0; simp only [put, app, af, aj, zE, zS, E])
  refine aq ?_
  refine hK5 _ ?_; clear hK5; refine ai [0, 1, 2, 6, 10] ?_; simp only [ad, lkp, zE, reduceCtorEq, J, ae, E]
  refine ah fun K6 hK6 => ?_
  refine ao hP hN rfl ?_
  iterate 2 (refine ag rfl fun K0 aa => ?_; simp only [zE, op1, ev, lkp, am, ak, ev, reduceCtorEq, J, E, U, Z, V, Y, Tryd.el95, Tryd.td95]; refine aa _ ?_; clear aa K0; simp only [put, app, af, aj, zE, zS, E])
  refine aq ?_
  refine hK6 _ ?_; clear hK6; refine ai [0, 1, 2, 6, 10] ?_; simp only [ad, lkp, zE, reduceCtorEq, J, ae, E]
  refine aU ?_
  refine ⟨by first | exact .inl rfl | exact .inr rfl, _, rfl, ?_⟩; simp only [ad, lkp, zE, reduceCtorEq, J, ae, E]
  first | exact ⟨rfl, rfl⟩ | rfl
end Go.Proofs.YtceafldjjedhcaaDoor
namespace Go.Proofs.YtceafldjjedhcaaDoor
open Go Go.AV
open Nat renaming reduceEqDiff → J, reduceAdd → E, reduceLeDiff → U, reduceLT → Z, reduceMul → V, reduceSub → Y
open List renaming set_cons_zero → aw, set_cons_succ → au
set_option maxRecDepth 100000 in
theorem wv (n v : Nat) (xs : List Int) (hn : n < 1679616) (hx : xs.length ≤ 1000000000) : fb Tryd.prog [.row (.int .u8) 5 v xs] 46 [.one (.row 0 v), .one (.int .i64 (n : Int)), .one (.int .i64 36)] { av := .one (.row 0 (v + 1)), upd := [(0, .row (.int .u8) 5 (v + 1) (xs ++ d36 n))], new := [.dead 0], fp := [0] } := by
 refine eV _ _ Tryd.func46 rfl (by kernel_rfl) (Nat.le_of_ble_eq_true rfl) (by intro k hk; simp only [List.length_cons, List.length_nil, Nat.zero_add, E] at hk; simp only [List.mem_cons, List.not_mem_nil, or_false]; omega) (fun C hP hN hB => ?_)
 replace hB : C.bL.length = 1 := by rw [hB]; rfl
 replace hN : C.N = 21 := hN
 simp only [ae, E]
 refine ah fun K1 hK1 => ?_
 refine ao hP hN rfl ?_
 (refine ag rfl fun K0 aa => ?_; simp only [zE, op1, ev, lkp, am, ak, ev, reduceCtorEq, J, E, U, Z, V, Y, Tryd.el95, Tryd.td95, ca]; refine aa _ ?_; clear aa K0; simp only [put, app, af, aj, zE, zS, E])
 refine aq ?_
 refine hK1 _ ?_; clear hK1; refine ai [0, 1, 2, 6] ?_; simp only [ad, lkp, zE, reduceCtorEq, J, ae, E]
 refine ah fun K2 hK2 => ?_
 refine ao hP hN rfl ?_
 iterate 3 (refine ag rfl fun K0 aa => ?_; simp only [zE, op1, ev, lkp, am, ak, fS, reduceCtorEq, J, E, U, Z, V, Y, Tryd.td111, Tryd.td2, ca]; (repeat refine And.intro (by first | omega | assumption | exact rfl) ?_); refine aa _ ?_; clear aa K0; simp only [put, app, af, aj, zE, zS, E])
 refine aq ?_
 refine hK2 _ ?_; clear hK2; refine ai [0, 1, 2, 6, 7] ?_; simp only [ad, lkp, zE, reduceCtorEq, J, ae, E]
 refine ah fun K3 hK3 => ?_
 refine ah fun K4 hK4 => ?_
 refine ao hP hN rfl ?_
 iterate 2 (refine ag rfl fun K0 aa => ?_; simp only [zE, op1, ev, lkp, am, ak, aJ, aK, aI, ay, aH, aX, reduceCtorEq, J, E, U, Z, V, Y, Tryd.td2, Tryd.td4, ca]; (repeat refine And.intro (by first | omega | assumption | exact rfl) ?_); refine aa _ ?_; clear aa K0; simp only [put, app, af, aj, zE, zS, E])
 refine aq ?_
 refine hK4 _ ?_; clear hK4; refine ai [0, 1, 2, 6, 7, 11] ?_; simp only [ad, lkp, zE, reduceCtorEq, J, ae, E]
 refine aL (by simp only [ev, ad, lkp, zE, reduceCtorEq, J, ae, E]; exact rfl) (fun hc5 => ?_) (fun hc5 => ?_)
 · exfalso; (try simp only [zB, reduceCtorEq] at hc5); all_goals (first | (cases hc5; done) | omega | (simp at hc5; done) | (simp_all; done))
 ·(try simp only [zB, reduceCtorEq] at hc5)
  refine aT ?_
  refine hK3 _ ?_; clear hK3; refine ai [0, 1, 2, 6, 7, 11] ?_; simp only [ad, lkp, zE, reduceCtorEq, J, ae, E]
  refine ah fun K6 hK6 => ?_
  refine ao hP hN rfl ?_
  iterate 3 (refine ag rfl fun K0 aa => ?_; simp only [zE, op1, ev, lkp, am, ak, ev, reduceCtorEq, J, E, U, Z, V, Y, Tryd.el95, Tryd.td111, Tryd.td3, Tryd.td95, ca]; refine aa _ ?_; clear aa K0; simp only [put, app, af, aj, zE, zS, E])
  refine ag rfl fun K0 aa => ?_
  refine aW (h := vu n v xs hn hx) rfl rfl (by first | exact rfl | (simp only [ev, ad, lkp, zE, reduceCtorEq, J, ae, E]; exact rfl)) (by simp only [zE, zG, op1, ev, lkp, am, ak, ax, acs, bf, mv1, mvC, Ty.dflt, reduceCtorEq, J, E, U, Z, V, Y, ca]) ?_
  refine aa _ ?_; clear aa K0; simp only [put, app, af, aj, zE, zS, E]
  (refine ag rfl fun K0 aa => ?_; simp only [zE, op1, ev, lkp, am, ak, ev, reduceCtorEq, J, E, U, Z, V, Y, Tryd.el95, Tryd.td95, ca]; refine aa _ ?_; clear aa K0; simp only [put, app, af, aj, zE, zS, E])
  refine aq ?_
  refine hK6 _ ?_; clear hK6; refine ai [0, 1, 2, 6, 7, 11] ?_; simp only [ad, lkp, zE, reduceCtorEq, J, ae, E]
  refine aU ?_
  refine ⟨by first | exact .inl rfl | exact .inr rfl, _, rfl, ?_⟩; simp only [ad, lkp, zE, reduceCtorEq, J, ae, E, ca]
  first | exact ⟨rfl, rfl⟩ | rfl
end Go.Proofs.YtceafldjjedhcaaDoor
namespace Go.Proofs.YtceafldjjedhcaaDoor
open Go Go.AV
open Nat renaming reduceEqDiff → J, reduceAdd → E, reduceLeDiff → U, reduceLT → Z, reduceMul → V, reduceSub → Y
open List renaming set_cons_zero → aw, set_cons_succ → au
set_option maxRecDepth 100000 in
theorem ve (n v : Nat) (xs : List Int) (hn : n < 1679616) (hx : xs.length ≤ 1000000000) : fb Tryd.prog [.row (.int .u8) 5 v xs] 42 [.one (.row 0 v), .one (.int .i64 (n : Int)), .one (.int .i64 36)] { av := .one (.row 0 (v + 1)), upd := [(0, .row (.int .u8) 5 (v + 1) (xs ++ d36 n))], new := [.dead 0], fp := [0] } := by
 refine eV _ _ Tryd.func42 rfl (by kernel_rfl) (Nat.le_of_ble_eq_true rfl) (by intro k hk; simp only [List.length_cons, List.length_nil, Nat.zero_add, E] at hk; simp only [List.mem_cons, List.not_mem_nil, or_false]; omega) (fun C hP hN hB => ?_)
 replace hB : C.bL.length = 1 := by rw [hB]; rfl
 replace hN : C.N = 11 := hN
 simp only [ae, E]
 refine ah fun K1 hK1 => ?_
 refine ao hP hN rfl ?_
 (refine ag rfl fun K0 aa => ?_; simp only [zE, op1, ev, lkp, am, ak, ev, reduceCtorEq, J, E, U, Z, V, Y, Tryd.el95, Tryd.td95]; refine aa _ ?_; clear aa K0; simp only [put, app, af, aj, zE, zS, E])
 refine aq ?_
 refine hK1 _ ?_; clear hK1; refine ai [0, 1, 2, 6] ?_; simp only [ad, lkp, zE, reduceCtorEq, J, ae, E]
 refine ah fun K2 hK2 => ?_
 refine ao hP hN rfl ?_
 iterate 3 (refine ag rfl fun K0 aa => ?_; simp only [zE, op1, ev, lkp, am, ak, ev, reduceCtorEq, J, E, U, Z, V, Y, Tryd.el95, Tryd.td2, Tryd.td3, Tryd.td95]; refine aa _ ?_; clear aa K0; simp only [put, app, af, aj, zE, zS, E])
 refine ag rfl fun K0 aa => ?_
 refine aW (h := wv n v xs hn hx) rfl rfl (by first | exact rfl | (simp only [ev, ad, lkp, zE, reduceCtorEq, J, ae, E]; exact rfl)) (by simp only [zE, zG, op1, ev, lkp, am, ak, ax, acs, bf, mv1, mvC, Ty.dflt, reduceCtorEq, J, E, U, Z, V, Y]) ?_
 refine aa _ ?_; clear aa K0; simp only [put, app, af, aj, zE, zS, E]
 (refine ag rfl fun K0 aa => ?_; simp only [zE, op1, ev, lkp, am, ak, ev, reduceCtorEq, J, E, U, Z, V, Y, Tryd.el95, Tryd.td95]; refine aa _ ?_; clear aa K0; simp only [put, app, af, aj, zE, zS, E])
 refine aq ?_
 refine hK2 _ ?_; clear hK2; refine ai [0, 1, 2, 6] ?_; simp only [ad, lkp, zE, reduceCtorEq, J, ae, E]
 refine aU ?_
 refine ⟨by first | exact .inl rfl | exact .inr rfl, _, rfl, ?_⟩; simp only [ad, lkp, zE, reduceCtorEq, J, ae, E]
 first | exact ⟨rfl, rfl⟩ | rfl
end Go.Proofs.YtceafldjjedhcaaDoor
namespace Go.Proofs.YtceafldjjedhcaaDoor
open Go Go.AV
open Nat renaming reduceEqDiff → J, reduceAdd → E, reduceLeDiff → U, reduceLT → Z, reduceMul → V, reduceSub → Y
open List renaming set_cons_zero → aw, set_cons_succ → au
set_option maxRecDepth 100000 in
theorem v9 (xs : List Int) (hx : KB xs) (hl : xs.length ≤ 100000000) : cq Tryd.prog 34 [.one (.list (.int .i64) xs)] (.one (.str (eS xs))) := by
 refine bt Tryd.func34 rfl (by kernel_rfl) (Nat.le_of_ble_eq_true rfl) rfl fun C hP hN hB => ?_
 replace hN : C.N = 20 := hN
 simp only [ae, E]
 refine ah fun K1 hK1 => ?_
 refine ao hP hN rfl ?_
 (refine ag rfl fun K0 aa => ?_; simp only [zE, op1, ev, lkp, am, ak, ev, reduceCtorEq, J, E, U, Z, V, Y, Tryd.td9]; refine aa _ ?_; clear aa K0; simp only [put, app, af, aj, zE, zS, E])
 refine aq ?_
 refine hK1 _ ?_; clear hK1; refine ai [0, 2] ?_; simp only [ad, lkp, zE, reduceCtorEq, J, ae, E]
 refine ah fun K2 hK2 => ?_
 refine ao hP hN rfl ?_
 (refine ag rfl fun K0 aa => ?_; simp only [zE, op1, ev, lkp, am, ak, ev, reduceCtorEq, J, E, U, Z, V, Y, Tryd.el95, Tryd.td95]; refine aa _ ?_; clear aa K0; simp only [put, app, af, aj, zE, zS, E])
 refine aq ?_
 refine hK2 _ ?_; clear hK2; refine ai [0, 2, 3] ?_; simp only [ad, lkp, zE, reduceCtorEq, J, ae, E]
 refine ah fun K3 hK3 => ?_
 refine ah fun K4 hK4 => ?_
 refine ao hP hN rfl ?_
 iterate 3 (refine ag rfl fun K0 aa => ?_; simp only [zE, op1, ev, lkp, am, ak, aP, bT, bC, bu, bv, bP, Nat.div_one, aV, bz, Ty.size, aM, dite_true, reduceCtorEq, J, E, U, Z, V, Y, Tryd.el25, Tryd.td25, Tryd.td3]; (repeat refine And.intro (by first | omega | assumption | exact rfl) ?_); (first | refine aa _ ?_ | refine Or.inl (aa _ ?_)); clear aa K0; simp only [put, app, af, aj, zE, zS, E])
 refine aq ?_
 refine hK4 _ ?_; clear hK4; refine ai [0, 2, 3, 6, 7, 8] ?_; simp only [ad, lkp, zE, reduceCtorEq, J, ae, E]
 refine b8 ?_
 refine eP 3 (.int .u8) 5 (by decide) rfl ?_; simp only [List.length_cons, List.length_nil, List.cons_append, List.nil_append, Nat.zero_add, E]
 refine cj (fun n5 s5 => ∃ (k : Nat) (v : Nat), (k ≤ xs.length) ∧ n5 = xs.length - k ∧ s5 = { env := [(2, .one (.str [])), (3, .one (.row 0 v)), (6, .one (.list (.int .i64) xs)), (7, .one (.int .i64 (xs.length : Int))), (8, .one (.int .i64 (k : Int)))], L := [.row (.int .u8) 5 v (gm (xs.take k))] }) ?_ ?_
 ·exact ⟨_, _, aY [2, 3, 6, 7, 8], 0, 0, Nat.zero_le _, rfl, rfl⟩
 ·rintro n5 s5 ⟨k, v, hk, rfl, rfl⟩
  refine ah fun K6 hK6 => ?_
  refine ao hP hN rfl ?_
  (refine ag rfl fun K0 aa => ?_; simp only [zE, op1, ev, lkp, am, ak, aJ, aK, aI, ay, aH, aX, reduceCtorEq, J, E, U, Z, V, Y, Tryd.td3]; (repeat refine And.intro (by first | omega | assumption | exact rfl) ?_); refine aa _ ?_; clear aa K0; simp only [put, app, af, aj, zE, zS, E])
  refine aq ?_
  refine hK6 _ ?_; clear hK6; refine ai [2, 3, 6, 7, 8, 9] ?_; simp only [ad, lkp, zE, reduceCtorEq, J, ae, E]
  refine ah fun K7 hK7 => ?_
  refine aL (by simp only [ev, ad, lkp, zE, reduceCtorEq, J, ae, E]; exact rfl) (fun hc8 => ?_) (fun hc8 => ?_)
  ·(try simp only [zB, reduceCtorEq] at hc8)
   refine aT ?_
   refine hK7 _ ?_; clear hK7; refine ai [2, 3, 6, 7, 8, 9] ?_; simp only [ad, lkp, zE, reduceCtorEq, J, ae, E]
   refine ah fun K9 hK9 => ?_
   refine b8 ?_
   refine ah fun K10 hK10 => ?_
   refine ao hP hN rfl ?_
   iterate 3 (refine ag rfl fun K0 aa => ?_; simp only [zE, op1, ev, lkp, am, ak, aS, zG, Ty.dflt, Ty.size, Nat.mul_one, ne_eq, not_false_eq_true, Int.natCast_one, Int.mul_one, aE, aC, aD, acs, az, reduceCtorEq, J, E, U, Z, V, Y, Tryd.el25, Tryd.td25, Tryd.td3]; (repeat refine And.intro (by first | omega | assumption | exact rfl) ?_); refine aa _ ?_; clear aa K0; simp only [put, app, af, aj, zE, zS, E])
   refine aq ?_
   refine hK10 _ ?_; clear hK10; refine ai [2, 3, 5, 6, 7, 8, 9] ?_; simp only [ad, lkp, zE, reduceCtorEq, J, ae, E]
   have hkl := kH (xs.take k); rw [List.length_take] at hkl
   have hxk := hx _ (cU (w := xs) (i := k) (by omega))
   obtain ⟨n, hn⟩ : ∃ n : Nat, xs.getD k 0 = (n : Int) := ⟨(xs.getD k 0).toNat, by omega⟩
   rw [hn]
   have hn9 : n < 1679616 := by omega
   have hdl := ma (n := n)
   have hal : (gm (xs.take k) ++ d36 n).length = (gm (xs.take k)).length + (d36 n).length := List.length_append
   refine ao hP hN rfl ?_
   iterate 2 (refine ag rfl fun K0 aa => ?_; simp only [zE, op1, ev, lkp, am, ak, ev, reduceCtorEq, J, E, U, Z, V, Y, Tryd.el95, Tryd.td3, Tryd.td95]; refine aa _ ?_; clear aa K0; simp only [put, app, af, aj, zE, zS, E])
   refine ag rfl fun K0 aa => ?_
   refine aW (h := ve n v (gm (xs.take k)) hn9 (by omega)) rfl rfl (by first | exact rfl | (simp only [ev, ad, lkp, zE, reduceCtorEq, J, ae, E]; exact rfl)) (by simp only [zE, zG, op1, ev, lkp, am, ak, ax, acs, bf, mv1, mvC, Ty.dflt, reduceCtorEq, J, E, U, Z, V, Y]) ?_
   refine aa _ ?_; clear aa K0; simp only [put, app, af, aj, zE, zS, E]
   iterate 3 (refine ag rfl fun K0 aa => ?_; simp only [zE, op1, ev, lkp, am, ak, b0, bl, c8, rep, aM, aR, ax, Ty.size, aP, bT, bC, bu, bv, bP, Nat.div_one, aV, bz, dite_true, reduceCtorEq, J, E, U, Z, V, Y, Tryd.el95, Tryd.td1, Tryd.td95]; (repeat refine And.intro (by first | omega | assumption | exact rfl) ?_); (first | refine aa _ ?_ | refine Or.inl (aa _ ?_)); clear aa K0; simp only [put, app, af, aj, zE, zS, E])
   refine aq ?_
   refine hK9 _ ?_; clear hK9; refine ai [2, 3, 5, 6, 7, 8, 9] ?_; simp only [ad, lkp, zE, reduceCtorEq, J, ae, E]
   refine d7 (n := 1) (L1 := [_]) rfl rfl (by rw [hB]; decide) rfl rfl ?_
   refine ao hP hN rfl ?_
   iterate 2 (refine ag rfl fun K0 aa => ?_; simp only [zE, op1, ev, lkp, am, ak, aJ, aK, aI, ay, aH, aX, reduceCtorEq, J, E, U, Z, V, Y, Tryd.td3]; (repeat refine And.intro (by first | omega | assumption | exact rfl) ?_); refine aa _ ?_; clear aa K0; simp only [put, app, af, aj, zE, zS, E])
   refine aq ?_
   refine ⟨_, _, ?_, aY [2, 3, 6, 7, 8], k + 1, v + 1 + 1, by omega, rfl, ?_⟩
   · omega
   · rw [sq (by omega) hn]; rfl
  ·(try simp only [zB, reduceCtorEq] at hc8)
   refine cm ?_
   refine hK3 _ ?_; clear hK3; refine ai [2, 3, 6, 7, 8, 9] ?_; simp only [ad, lkp, zE, reduceCtorEq, J, ae, E]
   refine ah fun K11 hK11 => ?_
   refine da 0 rfl ?_; simp only [List.map_cons, List.map_nil, zS, J, and_self, and_true, true_and, and_false, false_and, if_true, if_false, eq_self, reduceCtorEq, Nat.one_ne_zero, Nat.zero_ne_one]
   have hkw : k = xs.length := by omega
   rw [hkw, List.take_length]
   refine ao hP hN rfl ?_
   (refine ag rfl fun K0 aa => ?_; simp only [zE, op1, ev, lkp, am, ak, ev, reduceCtorEq, J, E, U, Z, V, Y, Tryd.el95, Tryd.td95]; refine aa _ ?_; clear aa K0; simp only [put, app, af, aj, zE, zS, E])
   (refine ag rfl fun K0 aa => ?_; simp only [zE, op1, ev, lkp, am, ak, fS, reduceCtorEq, J, E, U, Z, V, Y, Tryd.el95, Tryd.td9, Tryd.td95]; refine ⟨⟨_, _, rfl, Tryd.td5, rfl⟩, aa _ ?_⟩; clear aa K0; simp only [put, app, af, aj, zE, zS, E])
   (refine ag rfl fun K0 aa => ?_; simp only [zE, op1, ev, lkp, am, ak, ev, reduceCtorEq, J, E, U, Z, V, Y, Tryd.td9]; refine aa _ ?_; clear aa K0; simp only [put, app, af, aj, zE, zS, E])
   refine aq ?_
   refine hK11 _ ?_; clear hK11; refine ai [2, 3, 6, 7, 8, 9] ?_; simp only [ad, lkp, zE, reduceCtorEq, J, ae, E]
   refine aU ?_
   refine ⟨by first | exact .inl rfl | exact .inr rfl, _, rfl, ?_⟩; simp only [fzV, fz1, fzC, List.map_cons, List.map_nil, ad, lkp, zE, reduceCtorEq, J, ae, E]
   refine VLE.of_eq ?_
   rfl
end Go.Proofs.YtceafldjjedhcaaDoor
namespace Go.Proofs.YtceafldjjedhcaaDoor
open Go Go.AV
open Nat renaming reduceEqDiff → J, reduceAdd → E, reduceLeDiff → U, reduceLT → Z, reduceMul → V, reduceSub → Y
open List renaming set_cons_zero → aw, set_cons_succ → au
set_option maxRecDepth 100000 in
theorem vv (m : Mly) (p : Mpr) (S : List SS) (xs : List Int) (hS : ∀ s ∈ S, KB s.1) (hx : KB xs) (hl : xs.length ≤ 100000000) (h8 : S.length ≤ 128) (X0 X1 X2 X3 : AO) : fb Tryd.prog [X0, X1, X2, X3, .mp 60 .int (esS S), .vars 63 [.int .i64 m.inp, .int .i64 m.st, .list (.list (.int .i64)) m.nx, .list (.list (.int .i64)) m.ot, .int .i64 p.inp, .int .i64 p.ab, .int .i64 p.st, .list (.list (.int .i64)) p.nx, .list (.list (.int .i64)) p.sy, .row 6 S.length, .mpv 4], .row (.pair (.list (.int .i64)) (.pair (.list (.int .i64)) .unit)) 67 S.length (List.map eQ S)] 22 [.one (.ptr 5 0 0 0), .one (.list (.int .i64) xs), .one .nils] { av := .tup [.one (.int .i64 (sgK S xs)), .one (.bool (sgB S xs))], upd := [(4, .mp 60 .int (esS (sgS S xs []))), (5, .vars 63 [.int .i64 m.inp, .int .i64 m.st, .list (.list (.int .i64)) m.nx, .list (.list (.int .i64)) m.ot, .int .i64 p.inp, .int .i64 p.ab, .int .i64 p.st, .list (.list (.int .i64)) p.nx, .list (.list (.int .i64)) p.sy, .row 6 (sgS S xs []).length, .mpv 4]), (6, .row (.pair (.list (.int .i64)) (.pair (.list (.int .i64)) .unit)) 67 (sgS S xs []).length (List.map eQ (sgS S xs [])))], fp := [0, 1, 2, 3, 4, 5, 6] } := by
 have hks : (eS xs).length ≤ 9223372036854775807 := by unfold eS; rw [List.length_map]; have := kH xs; omega
 refine eV _ _ Tryd.func22 rfl (by kernel_rfl) (Nat.le_of_ble_eq_true rfl) (by intro k hk; simp only [List.length_cons, List.length_nil, Nat.zero_add, E] at hk; simp only [List.mem_cons, List.not_mem_nil, or_false]; omega) (fun C hP hN hB => ?_)
 replace hB : C.bL.length = 7 := by rw [hB]; rfl
 replace hN : C.N = 58 := hN
 simp only [ae, E]
 refine ah fun K1 hK1 => ?_
 refine ao hP hN rfl ?_
 iterate 2 (refine ag rfl fun K0 aa => ?_; simp only [zE, op1, ev, lkp, am, ak, ev, reduceCtorEq, J, E, U, Z, V, Y, Tryd.td3, Tryd.td4, List.length_map]; refine aa _ ?_; clear aa K0; simp only [put, app, af, aj, zE, zS, E])
 refine aq ?_
 refine hK1 _ ?_; clear hK1; refine ai [0, 1, 2, 6, 7] ?_; simp only [ad, lkp, zE, reduceCtorEq, J, ae, E]
 refine ah fun K2 hK2 => ?_
 refine ao hP hN rfl ?_
 (refine ag rfl fun K0 aa => ?_; simp only [zE, op1, ev, lkp, am, ak, ev, reduceCtorEq, J, E, U, Z, V, Y, Tryd.el25, Tryd.td25, List.length_map]; refine aa _ ?_; clear aa K0; simp only [put, app, af, aj, zE, zS, E])
 refine ag rfl fun K0 aa => ?_
 refine aW (h := aF (v9 xs hx hl)) rfl rfl (by first | exact rfl | (simp only [ev, ad, lkp, zE, reduceCtorEq, J, ae, E]; exact rfl)) (by simp only [zE, zG, op1, ev, lkp, am, ak, ax, acs, bf, mv1, mvC, Ty.dflt, reduceCtorEq, J, E, U, Z, V, Y, List.length_map]) ?_
 refine aa _ ?_; clear aa K0; simp only [put, app, af, aj, zE, zS, E]
 (refine ag rfl fun K0 aa => ?_; simp only [zE, op1, ev, lkp, am, ak, ev, reduceCtorEq, J, E, U, Z, V, Y, Tryd.td9, List.length_map]; refine aa _ ?_; clear aa K0; simp only [put, app, af, aj, zE, zS, E])
 refine aq ?_
 refine hK2 _ ?_; clear hK2; refine ai [0, 1, 2, 6, 7, 8] ?_; simp only [ad, lkp, zE, reduceCtorEq, J, ae, E]
 refine ah fun K3 hK3 => ?_
 refine ah fun K4 hK4 => ?_
 obtain ⟨hls, hlg⟩ := m3 hS hx
 refine ao hP hN rfl ?_
 iterate 11 (refine ag rfl fun K0 aa => ?_; simp only [zE, op1, ev, lkp, am, ak, dK, aA, aE, Nat.mul_one, aC, aD, acs, Ty.dflt, zG, az, gv, du, VK.ac, bS, reduceCtorEq, J, E, U, Z, V, Y, Tryd.mk60, Tryd.st63, Tryd.td1, Tryd.td3, Tryd.td4, Tryd.td63, Tryd.td83, Tryd.td9, List.length_map, hls, hlg]; (repeat refine And.intro (by first | omega | assumption | exact hks | exact rfl) ?_); (first | refine aa _ ?_ | refine Or.inl (aa _ ?_)); clear aa K0; simp only [put, app, af, aj, zE, zS, E])
 refine aq ?_
 refine hK4 _ ?_; clear hK4; refine ai [0, 1, 2, 6, 7, 8, 9, 10] ?_; simp only [ad, lkp, zE, reduceCtorEq, J, ae, E]
 refine ah fun K5 hK5 => ?_
 refine ao hP hN rfl ?_
 (refine ag rfl fun K0 aa => ?_; simp only [zE, op1, ev, lkp, am, ak, ev, reduceCtorEq, J, E, U, Z, V, Y, Tryd.td4, List.length_map]; refine aa _ ?_; clear aa K0; simp only [put, app, af, aj, zE, zS, E])
 refine aq ?_
 refine hK5 _ ?_; clear hK5; refine ai [0, 1, 2, 6, 7, 8, 9, 10, 22] ?_; simp only [ad, lkp, zE, reduceCtorEq, J, ae, E]
 refine aL (by simp only [ev, ad, lkp, zE, reduceCtorEq, J, ae, E]; exact rfl) (fun hc6 => ?_) (fun hc6 => ?_)
 ·(try simp only [zB, reduceCtorEq] at hc6)
  have hps : dm S xs < S.length := by simpa using hc6
  refine ah fun K7 hK7 => ?_
  refine ao hP hN rfl ?_
  iterate 3 (refine ag rfl fun K0 aa => ?_; simp only [zE, op1, ev, lkp, am, ak, ev, reduceCtorEq, J, E, U, Z, V, Y, Tryd.td3, Tryd.td4, List.length_map]; refine aa _ ?_; clear aa K0; simp only [put, app, af, aj, zE, zS, E])
  refine aq ?_
  refine hK7 _ ?_; clear hK7; refine ai [0, 1, 2, 6, 7, 8, 9, 10, 22] ?_; simp only [ad, lkp, zE, reduceCtorEq, J, ae, E]
  refine aU ?_
  refine ⟨by first | exact .inl rfl | exact .inr rfl, _, rfl, ?_⟩; simp only [ad, lkp, zE, reduceCtorEq, J, ae, E, List.length_map]
  first
  | (obtain ⟨e1, e2, e3⟩ := gM (w := []) hps; rw [e1, e2, e3, if_pos hps]; first | exact ⟨rfl, rfl⟩ | rfl)
  | (obtain ⟨e1, e2, e3⟩ := gB (w := []) hps hfl; rw [e1, e2, e3]; first | exact ⟨rfl, rfl⟩ | rfl)
  | (obtain ⟨e1, e2, e3⟩ := gZ (w := []) hps hfl; rw [e1, e2, e3, ← iV hS hx hps, show (((S.length + 1 : Nat) : Int) - 1) = (S.length : Int) by omega]; simp only [List.length_append, List.length_cons, List.length_nil, Nat.zero_add, List.map_append, List.map_cons, List.map_nil]; first | exact ⟨rfl, rfl⟩ | exact ⟨rfl, trivial⟩ | rfl)
 ·(try simp only [zB, reduceCtorEq] at hc6)
  have hps : ¬ dm S xs < S.length := by simpa using hc6
  refine aT ?_
  refine hK3 _ ?_; clear hK3; refine ai [0, 1, 2, 6, 7, 8, 9, 10, 22] ?_; simp only [ad, lkp, zE, reduceCtorEq, J, ae, E]
  refine ah fun K8 hK8 => ?_
  refine ah fun K9 hK9 => ?_
  refine ao hP hN rfl ?_
  iterate 6 (refine ag rfl fun K0 aa => ?_; simp only [zE, op1, ev, lkp, am, ak, dK, aA, aE, Nat.mul_one, aC, aD, acs, Ty.dflt, zG, az, aP, bT, bC, bu, bv, bP, Nat.div_one, aV, bz, Ty.size, aM, dite_true, aJ, aK, aI, ay, aH, aX, reduceCtorEq, J, E, U, Z, V, Y, Tryd.el61, Tryd.st63, Tryd.td2, Tryd.td3, Tryd.td4, Tryd.td61, Tryd.td63, Tryd.td83, List.length_map]; (repeat refine And.intro (by first | omega | assumption | exact hks | exact rfl) ?_); (first | refine aa _ ?_ | refine Or.inl (aa _ ?_)); clear aa K0; simp only [put, app, af, aj, zE, zS, E])
  refine aq ?_
  refine hK9 _ ?_; clear hK9; refine ai [0, 1, 2, 6, 7, 8, 9, 10, 22, 29] ?_; simp only [ad, lkp, zE, reduceCtorEq, J, ae, E]
  refine aL (by simp only [ev, ad, lkp, zE, reduceCtorEq, J, ae, E]; exact rfl) (fun hc10 => ?_) (fun hc10 => ?_)
  ·(try simp only [zB, reduceCtorEq] at hc10)
   have hfl : S.length = 128 := by omega
   refine ah fun K11 hK11 => ?_
   refine ao hP hN rfl ?_
   iterate 2 (refine ag rfl fun K0 aa => ?_; simp only [zE, op1, ev, lkp, am, ak, ev, reduceCtorEq, J, E, U, Z, V, Y, Tryd.td3, Tryd.td4, List.length_map]; refine aa _ ?_; clear aa K0; simp only [put, app, af, aj, zE, zS, E])
   refine aq ?_
   refine hK11 _ ?_; clear hK11; refine ai [0, 1, 2, 6, 7, 8, 9, 10, 22, 29] ?_; simp only [ad, lkp, zE, reduceCtorEq, J, ae, E]
   refine aU ?_
   refine ⟨by first | exact .inl rfl | exact .inr rfl, _, rfl, ?_⟩; simp only [ad, lkp, zE, reduceCtorEq, J, ae, E, List.length_map]
   first
   | (obtain ⟨e1, e2, e3⟩ := gM (w := []) hps; rw [e1, e2, e3, if_pos hps]; first | exact ⟨rfl, rfl⟩ | rfl)
   | (obtain ⟨e1, e2, e3⟩ := gB (w := []) hps hfl; rw [e1, e2, e3]; first | exact ⟨rfl, rfl⟩ | rfl)
   | (obtain ⟨e1, e2, e3⟩ := gZ (w := []) hps hfl; rw [e1, e2, e3, ← iV hS hx hps, show (((S.length + 1 : Nat) : Int) - 1) = (S.length : Int) by omega]; simp only [List.length_append, List.length_cons, List.length_nil, Nat.zero_add, List.map_append, List.map_cons, List.map_nil]; first | exact ⟨rfl, rfl⟩ | exact ⟨rfl, trivial⟩ | rfl)
  ·(try simp only [zB, reduceCtorEq] at hc10)
   have hfl : ¬ S.length = 128 := by omega
   refine aT ?_
   refine hK8 _ ?_; clear hK8; refine ai [0, 1, 2, 6, 7, 8, 9, 10, 22, 29] ?_; simp only [ad, lkp, zE, reduceCtorEq, J, ae, E]
   refine ah fun K12 hK12 => ?_
   refine cB hP hN Tryd.mixed rfl ?_
   iterate 11 (refine ag rfl fun K0 aa => ?_; simp only [zE, op1, ev, lkp, am, ak, dK, aA, aE, Nat.mul_one, aC, aD, acs, Ty.dflt, zG, az, aP, bT, bC, bu, bv, bP, Nat.div_one, aV, bz, Ty.size, aM, dite_true, dD, du, kN, reduceCtorEq, J, E, U, Z, V, Y, Tryd.el61, Tryd.mk60, Tryd.st63, Tryd.td2, Tryd.td3, Tryd.td61, Tryd.td63, Tryd.td83, Tryd.td9, List.length_map]; (repeat refine And.intro (by first | omega | assumption | exact hks | exact rfl) ?_); (first | refine aa _ ?_ | refine Or.inl (aa _ ?_)); clear aa K0; simp only [put, app, af, aj, zE, zS, E])
   refine aq ?_
   refine ⟨by kernel_rfl, ?_⟩
   refine hK12 _ ?_; clear hK12; refine ai [0, 1, 2, 6, 7, 8, 9, 10, 22, 29] ?_; simp only [ad, lkp, zE, reduceCtorEq, J, ae, E]
   refine ah fun K13 hK13 => ?_
   refine ao hP hN rfl ?_
   iterate 13 (refine ag rfl fun K0 aa => ?_; simp only [zE, op1, ev, lkp, am, ak, dK, aA, aE, Nat.mul_one, aC, aD, acs, Ty.dflt, zG, az, cF, bl, aR, ax, b0, c8, rep, aM, Ty.size, aP, bT, bC, bu, bv, bP, Nat.div_one, aV, bz, dite_true, bJ, reduceCtorEq, J, E, U, Z, V, Y, Tryd.el25, Tryd.el61, Tryd.st63, Tryd.st67, Tryd.td1, Tryd.td2, Tryd.td25, Tryd.td61, Tryd.td63, Tryd.td67, Tryd.td83, List.length_map]; (repeat refine And.intro (by first | omega | assumption | exact hks | exact rfl) ?_); (first | refine aa _ ?_ | refine Or.inl (aa _ ?_)); clear aa K0; simp only [put, app, af, aj, zE, zS, E])
   refine aq ?_
   refine hK13 _ ?_; clear hK13; refine ai [0, 1, 2, 6, 7, 8, 9, 10, 22, 29] ?_; simp only [ad, lkp, zE, reduceCtorEq, J, ae, E]
   refine ah fun K14 hK14 => ?_
   have hal : (List.map eQ S ++ [(xs, [], ())]).length = S.length + 1 := by simp
   refine ao hP hN rfl ?_
   iterate 8 (refine ag rfl fun K0 aa => ?_; simp only [zE, op1, ev, lkp, am, ak, dK, aA, aE, Nat.mul_one, aC, aD, acs, Ty.dflt, zG, az, aP, bT, bC, bu, bv, bP, Nat.div_one, aV, bz, Ty.size, aM, dite_true, aJ, aK, aI, ay, aH, aX, reduceCtorEq, J, E, U, Z, V, Y, Tryd.el61, Tryd.st63, Tryd.td2, Tryd.td3, Tryd.td4, Tryd.td61, Tryd.td63, Tryd.td83, List.length_map, hal]; (repeat refine And.intro (by first | omega | assumption | exact hks | exact rfl) ?_); (first | refine aa _ ?_ | refine Or.inl (aa _ ?_)); clear aa K0; simp only [put, app, af, aj, zE, zS, E])
   refine aq ?_
   refine hK14 _ ?_; clear hK14; refine ai [0, 1, 2, 6, 7, 8, 9, 10, 22, 29] ?_; simp only [ad, lkp, zE, reduceCtorEq, J, ae, E]
   refine aU ?_
   refine ⟨by first | exact .inl rfl | exact .inr rfl, _, rfl, ?_⟩; simp only [ad, lkp, zE, reduceCtorEq, J, ae, E, List.length_map]
   first
   | (obtain ⟨e1, e2, e3⟩ := gM (w := []) hps; rw [e1, e2, e3, if_pos hps]; first | exact ⟨rfl, rfl⟩ | rfl)
   | (obtain ⟨e1, e2, e3⟩ := gB (w := []) hps hfl; rw [e1, e2, e3]; first | exact ⟨rfl, rfl⟩ | rfl)
   | (obtain ⟨e1, e2, e3⟩ := gZ (w := []) hps hfl; rw [e1, e2, e3, ← iV hS hx hps, show (((S.length + 1 : Nat) : Int) - 1) = (S.length : Int) by omega]; simp only [List.length_append, List.length_cons, List.length_nil, Nat.zero_add, List.map_append, List.map_cons, List.map_nil]; first | exact ⟨rfl, rfl⟩ | exact ⟨rfl, trivial⟩ | rfl)
end Go.Proofs.YtceafldjjedhcaaDoor
namespace Go.Proofs.YtceafldjjedhcaaDoor
open Go Go.AV
open Nat renaming reduceEqDiff → J, reduceAdd → E, reduceLeDiff → U, reduceLT → Z, reduceMul → V, reduceSub → Y
open List renaming set_cons_zero → aw, set_cons_succ → au
set_option maxRecDepth 100000 in
theorem vl (m : Mly) (p : Mpr) (S : List SS) (xs w : List Int) (hS : ∀ s ∈ S, KB s.1) (hx : KB xs) (hl : xs.length ≤ 100000000) (h8 : S.length ≤ 128) (X0 X1 X2 X3 Y0 Y1 Y2 Y3 Y4 : AO) : fb Tryd.prog [X0, X1, X2, X3, .mp 60 .int (esS S), .vars 63 [.int .i64 m.inp, .int .i64 m.st, .list (.list (.int .i64)) m.nx, .list (.list (.int .i64)) m.ot, .int .i64 p.inp, .int .i64 p.ab, .int .i64 p.st, .list (.list (.int .i64)) p.nx, .list (.list (.int .i64)) p.sy, .row 6 S.length, .mpv 4], .row (.pair (.list (.int .i64)) (.pair (.list (.int .i64)) .unit)) 67 S.length (List.map eQ S), Y0, Y1, Y2, Y3, Y4] 22 [.one (.ptr 5 0 0 0), .one (.list (.int .i64) xs), .one (.list (.int .i64) w)] { av := .tup [.one (.int .i64 (sgK S xs)), .one (.bool (sgB S xs))], upd := [(4, .mp 60 .int (esS (sgS S xs w))), (5, .vars 63 [.int .i64 m.inp, .int .i64 m.st, .list (.list (.int .i64)) m.nx, .list (.list (.int .i64)) m.ot, .int .i64 p.inp, .int .i64 p.ab, .int .i64 p.st, .list (.list (.int .i64)) p.nx, .list (.list (.int .i64)) p.sy, .row 6 (sgS S xs w).length, .mpv 4]), (6, .row (.pair (.list (.int .i64)) (.pair (.list (.int .i64)) .unit)) 67 (sgS S xs w).length (List.map eQ (sgS S xs w)))], fp := [0, 1, 2, 3, 4, 5, 6, 7, 8, 9, 10, 11] } := by
 have hks : (eS xs).length ≤ 9223372036854775807 := by unfold eS; rw [List.length_map]; have := kH xs; omega
 refine eV _ _ Tryd.func22 rfl (by kernel_rfl) (Nat.le_of_ble_eq_true rfl) (by intro k hk; simp only [List.length_cons, List.length_nil, Nat.zero_add, E] at hk; simp only [List.mem_cons, List.not_mem_nil, or_false]; omega) (fun C hP hN hB => ?_)
 replace hB : C.bL.length = 12 := by rw [hB]; rfl
 replace hN : C.N = 58 := hN
 simp only [ae, E]
 refine ah fun K1 hK1 => ?_
 refine ao hP hN rfl ?_
 iterate 2 (refine ag rfl fun K0 aa => ?_; simp only [zE, op1, ev, lkp, am, ak, ev, reduceCtorEq, J, E, U, Z, V, Y, Tryd.td3, Tryd.td4, List.length_map]; refine aa _ ?_; clear aa K0; simp only [put, app, af, aj, zE, zS, E])
 refine aq ?_
 refine hK1 _ ?_; clear hK1; refine ai [0, 1, 2, 6, 7] ?_; simp only [ad, lkp, zE, reduceCtorEq, J, ae, E]
 refine ah fun K2 hK2 => ?_
 refine ao hP hN rfl ?_
 (refine ag rfl fun K0 aa => ?_; simp only [zE, op1, ev, lkp, am, ak, ev, reduceCtorEq, J, E, U, Z, V, Y, Tryd.el25, Tryd.td25, List.length_map]; refine aa _ ?_; clear aa K0; simp only [put, app, af, aj, zE, zS, E])
 refine ag rfl fun K0 aa => ?_
 refine aW (h := aF (v9 xs hx hl)) rfl rfl (by first | exact rfl | (simp only [ev, ad, lkp, zE, reduceCtorEq, J, ae, E]; exact rfl)) (by simp only [zE, zG, op1, ev, lkp, am, ak, ax, acs, bf, mv1, mvC, Ty.dflt, reduceCtorEq, J, E, U, Z, V, Y, List.length_map]) ?_
 refine aa _ ?_; clear aa K0; simp only [put, app, af, aj, zE, zS, E]
 (refine ag rfl fun K0 aa => ?_; simp only [zE, op1, ev, lkp, am, ak, ev, reduceCtorEq, J, E, U, Z, V, Y, Tryd.td9, List.length_map]; refine aa _ ?_; clear aa K0; simp only [put, app, af, aj, zE, zS, E])
 refine aq ?_
 refine hK2 _ ?_; clear hK2; refine ai [0, 1, 2, 6, 7, 8] ?_; simp only [ad, lkp, zE, reduceCtorEq, J, ae, E]
 refine ah fun K3 hK3 => ?_
 refine ah fun K4 hK4 => ?_
 obtain ⟨hls, hlg⟩ := m3 hS hx
 refine ao hP hN rfl ?_
 iterate 11 (refine ag rfl fun K0 aa => ?_; simp only [zE, op1, ev, lkp, am, ak, dK, aA, aE, Nat.mul_one, aC, aD, acs, Ty.dflt, zG, az, gv, du, VK.ac, bS, reduceCtorEq, J, E, U, Z, V, Y, Tryd.mk60, Tryd.st63, Tryd.td1, Tryd.td3, Tryd.td4, Tryd.td63, Tryd.td83, Tryd.td9, List.length_map, hls, hlg]; (repeat refine And.intro (by first | omega | assumption | exact hks | exact rfl) ?_); (first | refine aa _ ?_ | refine Or.inl (aa _ ?_)); clear aa K0; simp only [put, app, af, aj, zE, zS, E])
 refine aq ?_
 refine hK4 _ ?_; clear hK4; refine ai [0, 1, 2, 6, 7, 8, 9, 10] ?_; simp only [ad, lkp, zE, reduceCtorEq, J, ae, E]
 refine ah fun K5 hK5 => ?_
 refine ao hP hN rfl ?_
 (refine ag rfl fun K0 aa => ?_; simp only [zE, op1, ev, lkp, am, ak, ev, reduceCtorEq, J, E, U, Z, V, Y, Tryd.td4, List.length_map]; refine aa _ ?_; clear aa K0; simp only [put, app, af, aj, zE, zS, E])
 refine aq ?_
 refine hK5 _ ?_; clear hK5; refine ai [0, 1, 2, 6, 7, 8, 9, 10, 22] ?_; simp only [ad, lkp, zE, reduceCtorEq, J, ae, E]
 refine aL (by simp only [ev, ad, lkp, zE, reduceCtorEq, J, ae, E]; exact rfl) (fun hc6 => ?_) (fun hc6 => ?_)
 ·(try simp only [zB, reduceCtorEq] at hc6)
  have hps : dm S xs < S.length := by simpa using hc6
  refine ah fun K7 hK7 => ?_
  refine ao hP hN rfl ?_
  iterate 3 (refine ag rfl fun K0 aa => ?_; simp only [zE, op1, ev, lkp, am, ak, ev, reduceCtorEq, J, E, U, Z, V, Y, Tryd.td3, Tryd.td4, List.length_map]; refine aa _ ?_; clear aa K0; simp only [put, app, af, aj, zE, zS, E])
  refine aq ?_
  refine hK7 _ ?_; clear hK7; refine ai [0, 1, 2, 6, 7, 8, 9, 10, 22] ?_; simp only [ad, lkp, zE, reduceCtorEq, J, ae, E]
  refine aU ?_
  refine ⟨by first | exact .inl rfl | exact .inr rfl, _, rfl, ?_⟩; simp only [ad, lkp, zE, reduceCtorEq, J, ae, E, List.length_map]
  first
  | (obtain ⟨e1, e2, e3⟩ := gM (w := w) hps; rw [e1, e2, e3, if_pos hps]; first | exact ⟨rfl, rfl⟩ | rfl)
  | (obtain ⟨e1, e2, e3⟩ := gB (w := w) hps hfl; rw [e1, e2, e3]; first | exact ⟨rfl, rfl⟩ | rfl)
  | (obtain ⟨e1, e2, e3⟩ := gZ (w := w) hps hfl; rw [e1, e2, e3, ← iV hS hx hps, show (((S.length + 1 : Nat) : Int) - 1) = (S.length : Int) by omega]; simp only [List.length_append, List.length_cons, List.length_nil, Nat.zero_add, List.map_append, List.map_cons, List.map_nil]; first | exact ⟨rfl, rfl⟩ | exact ⟨rfl, trivial⟩ | rfl)
 ·(try simp only [zB, reduceCtorEq] at hc6)
  have hps : ¬ dm S xs < S.length := by simpa using hc6
  refine aT ?_
  refine hK3 _ ?_; clear hK3; refine ai [0, 1, 2, 6, 7, 8, 9, 10, 22] ?_; simp only [ad, lkp, zE, reduceCtorEq, J, ae, E]
  refine ah fun K8 hK8 => ?_
  refine ah fun K9 hK9 => ?_
  refine ao hP hN rfl ?_
  iterate 6 (refine ag rfl fun K0 aa => ?_; simp only [zE, op1, ev, lkp, am, ak, dK, aA, aE, Nat.mul_one, aC, aD, acs, Ty.dflt, zG, az, aP, bT, bC, bu, bv, bP, Nat.div_one, aV, bz, Ty.size, aM, dite_true, aJ, aK, aI, ay, aH, aX, reduceCtorEq, J, E, U, Z, V, Y, Tryd.el61, Tryd.st63, Tryd.td2, Tryd.td3, Tryd.td4, Tryd.td61, Tryd.td63, Tryd.td83, List.length_map]; (repeat refine And.intro (by first | omega | assumption | exact hks | exact rfl) ?_); (first | refine aa _ ?_ | refine Or.inl (aa _ ?_)); clear aa K0; simp only [put, app, af, aj, zE, zS, E])
  refine aq ?_
  refine hK9 _ ?_; clear hK9; refine ai [0, 1, 2, 6, 7, 8, 9, 10, 22, 29] ?_; simp only [ad, lkp, zE, reduceCtorEq, J, ae, E]
  refine aL (by simp only [ev, ad, lkp, zE, reduceCtorEq, J, ae, E]; exact rfl) (fun hc10 => ?_) (fun hc10 => ?_)
  ·(try simp only [zB, reduceCtorEq] at hc10)
   have hfl : S.length = 128 := by omega
   refine ah fun K11 hK11 => ?_
   refine ao hP hN rfl ?_
   iterate 2 (refine ag rfl fun K0 aa => ?_; simp only [zE, op1, ev, lkp, am, ak, ev, reduceCtorEq, J, E, U, Z, V, Y, Tryd.td3, Tryd.td4, List.length_map]; refine aa _ ?_; clear aa K0; simp only [put, app, af, aj, zE, zS, E])
   refine aq ?_
   refine hK11 _ ?_; clear hK11; refine ai [0, 1, 2, 6, 7, 8, 9, 10, 22, 29] ?_; simp only [ad, lkp, zE, reduceCtorEq, J, ae, E]
   refine aU ?_
   refine ⟨by first | exact .inl rfl | exact .inr rfl, _, rfl, ?_⟩; simp only [ad, lkp, zE, reduceCtorEq, J, ae, E, List.length_map]
   first
   | (obtain ⟨e1, e2, e3⟩ := gM (w := w) hps; rw [e1, e2, e3, if_pos hps]; first | exact ⟨rfl, rfl⟩ | rfl)
   | (obtain ⟨e1, e2, e3⟩ := gB (w := w) hps hfl; rw [e1, e2, e3]; first | exact ⟨rfl, rfl⟩ | rfl)
   | (obtain ⟨e1, e2, e3⟩ := gZ (w := w) hps hfl; rw [e1, e2, e3, ← iV hS hx hps, show (((S.length + 1 : Nat) : Int) - 1) = (S.length : Int) by omega]; simp only [List.length_append, List.length_cons, List.length_nil, Nat.zero_add, List.map_append, List.map_cons, List.map_nil]; first | exact ⟨rfl, rfl⟩ | exact ⟨rfl, trivial⟩ | rfl)
  ·(try simp only [zB, reduceCtorEq] at hc10)
   have hfl : ¬ S.length = 128 := by omega
   refine aT ?_
   refine hK8 _ ?_; clear hK8; refine ai [0, 1, 2, 6, 7, 8, 9, 10, 22, 29] ?_; simp only [ad, lkp, zE, reduceCtorEq, J, ae, E]
   refine ah fun K12 hK12 => ?_
   refine cB hP hN Tryd.mixed rfl ?_
   iterate 11 (refine ag rfl fun K0 aa => ?_; simp only [zE, op1, ev, lkp, am, ak, dK, aA, aE, Nat.mul_one, aC, aD, acs, Ty.dflt, zG, az, aP, bT, bC, bu, bv, bP, Nat.div_one, aV, bz, Ty.size, aM, dite_true, dD, du, kN, reduceCtorEq, J, E, U, Z, V, Y, Tryd.el61, Tryd.mk60, Tryd.st63, Tryd.td2, Tryd.td3, Tryd.td61, Tryd.td63, Tryd.td83, Tryd.td9, List.length_map]; (repeat refine And.intro (by first | omega | assumption | exact hks | exact rfl) ?_); (first | refine aa _ ?_ | refine Or.inl (aa _ ?_)); clear aa K0; simp only [put, app, af, aj, zE, zS, E])
   refine aq ?_
   refine ⟨by kernel_rfl, ?_⟩
   refine hK12 _ ?_; clear hK12; refine ai [0, 1, 2, 6, 7, 8, 9, 10, 22, 29] ?_; simp only [ad, lkp, zE, reduceCtorEq, J, ae, E]
   refine ah fun K13 hK13 => ?_
   refine ao hP hN rfl ?_
   iterate 13 (refine ag rfl fun K0 aa => ?_; simp only [zE, op1, ev, lkp, am, ak, dK, aA, aE, Nat.mul_one, aC, aD, acs, Ty.dflt, zG, az, cF, bl, aR, ax, b0, c8, rep, aM, Ty.size, aP, bT, bC, bu, bv, bP, Nat.div_one, aV, bz, dite_true, bJ, reduceCtorEq, J, E, U, Z, V, Y, Tryd.el25, Tryd.el61, Tryd.st63, Tryd.st67, Tryd.td1, Tryd.td2, Tryd.td25, Tryd.td61, Tryd.td63, Tryd.td67, Tryd.td83, List.length_map]; (repeat refine And.intro (by first | omega | assumption | exact hks | exact rfl) ?_); (first | refine aa _ ?_ | refine Or.inl (aa _ ?_)); clear aa K0; simp only [put, app, af, aj, zE, zS, E])
   refine aq ?_
   refine hK13 _ ?_; clear hK13; refine ai [0, 1, 2, 6, 7, 8, 9, 10, 22, 29] ?_; simp only [ad, lkp, zE, reduceCtorEq, J, ae, E]
   refine ah fun K14 hK14 => ?_
   have hal : (List.map eQ S ++ [(xs, w, ())]).length = S.length + 1 := by simp
   refine ao hP hN rfl ?_
   iterate 8 (refine ag rfl fun K0 aa => ?_; simp only [zE, op1, ev, lkp, am, ak, dK, aA, aE, Nat.mul_one, aC, aD, acs, Ty.dflt, zG, az, aP, bT, bC, bu, bv, bP, Nat.div_one, aV, bz, Ty.size, aM, dite_true, aJ, aK, aI, ay, aH, aX, reduceCtorEq, J, E, U, Z, V, Y, Tryd.el61, Tryd.st63, Tryd.td2, Tryd.td3, Tryd.td4, Tryd.td61, Tryd.td63, Tryd.td83, List.length_map, hal]; (repeat refine And.intro (by first | omega | assumption | exact hks | exact rfl) ?_); (first | refine aa _ ?_ | refine Or.inl (aa _ ?_)); clear aa K0; simp only [put, app, af, aj, zE, zS, E])
   refine aq ?_
   refine hK14 _ ?_; clear hK14; refine ai [0, 1, 2, 6, 7, 8, 9, 10, 22, 29] ?_; simp only [ad, lkp, zE, reduceCtorEq, J, ae, E]
   refine aU ?_
   refine ⟨by first | exact .inl rfl | exact .inr rfl, _, rfl, ?_⟩; simp only [ad, lkp, zE, reduceCtorEq, J, ae, E, List.length_map]
   first
   | (obtain ⟨e1, e2, e3⟩ := gM (w := w) hps; rw [e1, e2, e3, if_pos hps]; first | exact ⟨rfl, rfl⟩ | rfl)
   | (obtain ⟨e1, e2, e3⟩ := gB (w := w) hps hfl; rw [e1, e2, e3]; first | exact ⟨rfl, rfl⟩ | rfl)
   | (obtain ⟨e1, e2, e3⟩ := gZ (w := w) hps hfl; rw [e1, e2, e3, ← iV hS hx hps, show (((S.length + 1 : Nat) : Int) - 1) = (S.length : Int) by omega]; simp only [List.length_append, List.length_cons, List.length_nil, Nat.zero_add, List.map_append, List.map_cons, List.map_nil]; first | exact ⟨rfl, rfl⟩ | exact ⟨rfl, trivial⟩ | rfl)
end Go.Proofs.YtceafldjjedhcaaDoor
namespace Go.Proofs.YtceafldjjedhcaaDoor
open Go Go.AV
open Nat renaming reduceEqDiff → J, reduceAdd → E, reduceLeDiff → U, reduceLT → Z, reduceMul → V, reduceSub → Y
open List renaming set_cons_zero → aw, set_cons_succ → au
set_option maxRecDepth 100000 in
theorem tW (p : Mpr) : cq Tryd.prog 21 [p.av] (.one (.int .i64 (cP p))) := by
 refine bt Tryd.func21 rfl (by kernel_rfl) (Nat.le_of_ble_eq_true rfl) rfl fun C hP hN hB => ?_
 replace hN : C.N = 116 := hN
 simp only [ae, E]
 refine ah fun K1 hK1 => ?_
 refine ao hP hN rfl ?_
 iterate 2 (refine ag rfl fun K0 aa => ?_; simp only [zE, op1, ev, lkp, am, ak, dn, ax, reduceCtorEq, J, E, U, Z, V, Y, Tryd.st32, Tryd.td28, Tryd.td32, Mpr.av, Int.toNat_natCast]; (repeat refine And.intro (by first | omega | assumption | exact rfl) ?_); refine aa _ ?_; clear aa K0; simp only [put, app, af, aj, zE, zS, E])
 refine aq ?_
 refine hK1 _ ?_; clear hK1; refine ai [0, 1, 2] ?_; simp only [ad, lkp, zE, reduceCtorEq, J, ae, E]
 refine ah fun K2 hK2 => ?_
 refine ao hP hN rfl ?_
 iterate 4 (refine ag rfl fun K0 aa => ?_; simp only [zE, op1, ev, lkp, am, ak, aA, aE, Nat.mul_one, aC, aD, acs, Ty.dflt, zG, az, aP, bT, bC, bu, bv, bP, Nat.div_one, aV, bz, Ty.size, aM, dite_true, reduceCtorEq, J, E, U, Z, V, Y, Tryd.el22, Tryd.st32, Tryd.td22, Tryd.td3, Tryd.td32, Mpr.av, Int.toNat_natCast]; (repeat refine And.intro (by first | omega | assumption | exact rfl) ?_); (first | refine aa _ ?_ | refine Or.inl (aa _ ?_)); clear aa K0; simp only [put, app, af, aj, zE, zS, E])
 refine aq ?_
 refine hK2 _ ?_; clear hK2; refine ai [0, 1, 2, 3] ?_; simp only [ad, lkp, zE, reduceCtorEq, J, ae, E]
 refine ah fun K3 hK3 => ?_
 refine b8 ?_
 refine ah fun K4 hK4 => ?_
 refine ao hP hN rfl ?_
 iterate 3 (refine ag rfl fun K0 aa => ?_; simp only [zE, op1, ev, lkp, am, ak, aA, aE, Nat.mul_one, aC, aD, acs, Ty.dflt, zG, az, aJ, aK, aI, ay, aH, aX, reduceCtorEq, J, E, U, Z, V, Y, Tryd.st32, Tryd.td3, Tryd.td32, Tryd.td4, Mpr.av, Int.toNat_natCast]; (repeat refine And.intro (by first | omega | assumption | exact rfl) ?_); refine aa _ ?_; clear aa K0; simp only [put, app, af, aj, zE, zS, E])
 (refine ag rfl fun K0 aa => ?_; simp only [zE, op1, ev, lkp, am, ak, ev, reduceCtorEq, J, E, U, Z, V, Y, Tryd.td4, Mpr.av, Int.toNat_natCast]; refine aa _ ?_; clear aa K0; simp only [put, app, af, aj, zE, zS, E])
 refine' bn (want := false) 3 rfl (m := 15) (by simp only [ad, lkp, zE, reduceCtorEq, J, ae, E]; exact rfl) (by kernel_rfl) rfl rfl rfl rfl rfl (fun hg5 => ?a5) ?b5 ?c5
 case a5 =>
  have hq5 := hg5; (try simp only [zB, reduceCtorEq] at hg5); simp only [List.take_succ_cons, List.take_zero, List.cons_append, List.nil_append]
  (refine aG rfl fun K0 aa => ?_; simp only [zE, op1, ev, lkp, am, ak, aA, reduceCtorEq, J, E, U, Z, V, Y, Tryd.st32, Tryd.td32, Mpr.av, Int.toNat_natCast]; (repeat refine And.intro (by first | omega | assumption | exact rfl) ?_); refine aa _ ?_; clear aa K0; simp only [put, app, af, aj, zE, zS, E])
  (refine aG rfl fun K0 aa => ?_; simp only [zE, op1, ev, lkp, am, ak, aE, Nat.mul_one, aC, aD, acs, Ty.dflt, zG, az, reduceCtorEq, J, E, U, Z, V, Y, Tryd.td3, Mpr.av, Int.toNat_natCast]; (repeat refine And.intro (by first | omega | assumption | exact rfl) ?_); refine aa _ ?_; clear aa K0; simp only [put, app, af, aj, zE, zS, E])
  (refine aG rfl fun K0 aa => ?_; simp only [zE, op1, ev, lkp, am, ak, aJ, aK, aI, ay, aH, aX, reduceCtorEq, J, E, U, Z, V, Y, Tryd.td3, Tryd.td4, Mpr.av, Int.toNat_natCast]; (repeat refine And.intro (by first | omega | assumption | exact rfl) ?_); refine aa _ ?_; clear aa K0; simp only [put, app, af, aj, zE, zS, E])
  (refine ag rfl fun K0 aa => ?_; simp only [zE, op1, ev, lkp, am, ak, bU, reduceCtorEq, J, E, U, Z, V, Y, Tryd.td4, Mpr.av, Int.toNat_natCast]; refine aa _ ?_; clear aa K0; simp only [put, app, af, aj, zE, zS, E])
  refine aq ?_
  refine ⟨by simp only [ad, lkp, zE, reduceCtorEq, J, ae, E]; exact rfl, rfl, ?_, rfl⟩; (repeat refine bo rfl ?_); exact bY (by exact rfl) hq5
 case b5 => exact bV (by first | rfl | (simp [cD]; done) | decide)
 simp only [bM, bB]
 (refine ag rfl fun K0 aa => ?_; simp only [zE, op1, ev, lkp, am, ak, ev, reduceCtorEq, J, E, U, Z, V, Y, Tryd.td4, Mpr.av, Int.toNat_natCast]; refine aa _ ?_; clear aa K0; simp only [put, app, af, aj, zE, zS, E])
 refine' bn (want := false) 3 rfl (m := 20) (by simp only [ad, lkp, zE, reduceCtorEq, J, ae, E]; exact rfl) (by kernel_rfl) rfl rfl rfl rfl rfl (fun hg6 => ?a6) ?b6 ?c6
 case a6 =>
  have hq6 := hg6; (try simp only [zB, reduceCtorEq] at hg6); simp only [List.take_succ_cons, List.take_zero, List.cons_append, List.nil_append]
  (refine aG rfl fun K0 aa => ?_; simp only [zE, op1, ev, lkp, am, ak, aA, reduceCtorEq, J, E, U, Z, V, Y, Tryd.st32, Tryd.td1, Tryd.td32, Mpr.av, Int.toNat_natCast]; (repeat refine And.intro (by first | omega | assumption | exact rfl) ?_); refine aa _ ?_; clear aa K0; simp only [put, app, af, aj, zE, zS, E])
  (refine aG rfl fun K0 aa => ?_; simp only [zE, op1, ev, lkp, am, ak, aE, Nat.mul_one, aC, aD, acs, Ty.dflt, zG, az, reduceCtorEq, J, E, U, Z, V, Y, Tryd.td3, Mpr.av, Int.toNat_natCast]; (repeat refine And.intro (by first | omega | assumption | exact rfl) ?_); refine aa _ ?_; clear aa K0; simp only [put, app, af, aj, zE, zS, E])
  (refine aG rfl fun K0 aa => ?_; simp only [zE, op1, ev, lkp, am, ak, aJ, aK, aI, ay, aH, aX, reduceCtorEq, J, E, U, Z, V, Y, Tryd.td3, Tryd.td4, Mpr.av, Int.toNat_natCast]; (repeat refine And.intro (by first | omega | assumption | exact rfl) ?_); refine aa _ ?_; clear aa K0; simp only [put, app, af, aj, zE, zS, E])
  (refine ag rfl fun K0 aa => ?_; simp only [zE, op1, ev, lkp, am, ak, bU, reduceCtorEq, J, E, U, Z, V, Y, Tryd.td4, Mpr.av, Int.toNat_natCast]; refine aa _ ?_; clear aa K0; simp only [put, app, af, aj, zE, zS, E])
  refine aq ?_
  refine ⟨by simp only [ad, lkp, zE, reduceCtorEq, J, ae, E]; exact rfl, rfl, ?_, rfl⟩; (repeat refine bo rfl ?_); exact bY (by exact rfl) hq6
 case b6 => exact bV (by first | rfl | (simp [cD]; done) | decide)
 simp only [bM, bB]
 (refine ag rfl fun K0 aa => ?_; simp only [zE, op1, ev, lkp, am, ak, ev, reduceCtorEq, J, E, U, Z, V, Y, Tryd.td4, Mpr.av, Int.toNat_natCast]; refine aa _ ?_; clear aa K0; simp only [put, app, af, aj, zE, zS, E])
 refine' bn (want := false) 3 rfl (m := 25) (by simp only [ad, lkp, zE, reduceCtorEq, J, ae, E]; exact rfl) (by kernel_rfl) rfl rfl rfl rfl rfl (fun hg7 => ?a7) ?b7 ?c7
 case a7 =>
  have hq7 := hg7; (try simp only [zB, reduceCtorEq] at hg7); simp only [List.take_succ_cons, List.take_zero, List.cons_append, List.nil_append]
  (refine aG rfl fun K0 aa => ?_; simp only [zE, op1, ev, lkp, am, ak, aA, reduceCtorEq, J, E, U, Z, V, Y, Tryd.st32, Tryd.td1, Tryd.td32, Mpr.av, Int.toNat_natCast]; (repeat refine And.intro (by first | omega | assumption | exact rfl) ?_); refine aa _ ?_; clear aa K0; simp only [put, app, af, aj, zE, zS, E])
  (refine aG rfl fun K0 aa => ?_; simp only [zE, op1, ev, lkp, am, ak, aE, Nat.mul_one, aC, aD, acs, Ty.dflt, zG, az, reduceCtorEq, J, E, U, Z, V, Y, Tryd.td3, Mpr.av, Int.toNat_natCast]; (repeat refine And.intro (by first | omega | assumption | exact rfl) ?_); refine aa _ ?_; clear aa K0; simp only [put, app, af, aj, zE, zS, E])
  (refine aG rfl fun K0 aa => ?_; simp only [zE, op1, ev, lkp, am, ak, aJ, aK, aI, ay, aH, aX, reduceCtorEq, J, E, U, Z, V, Y, Tryd.td3, Tryd.td4, Mpr.av, Int.toNat_natCast]; (repeat refine And.intro (by first | omega | assumption | exact rfl) ?_); refine aa _ ?_; clear aa K0; simp only [put, app, af, aj, zE, zS, E])
  (refine ag rfl fun K0 aa => ?_; simp only [zE, op1, ev, lkp, am, ak, bU, reduceCtorEq, J, E, U, Z, V, Y, Tryd.td4, Mpr.av, Int.toNat_natCast]; refine aa _ ?_; clear aa K0; simp only [put, app, af, aj, zE, zS, E])
  refine aq ?_
  refine ⟨by simp only [ad, lkp, zE, reduceCtorEq, J, ae, E]; exact rfl, rfl, ?_, rfl⟩; (repeat refine bo rfl ?_); exact bY (by exact rfl) hq7
 case b7 => exact bV (by first | rfl | (simp [cD]; done) | decide)
 simp only [bM, bB]
 (refine ag rfl fun K0 aa => ?_; simp only [zE, op1, ev, lkp, am, ak, ev, reduceCtorEq, J, E, U, Z, V, Y, Tryd.td4, Mpr.av, Int.toNat_natCast]; refine aa _ ?_; clear aa K0; simp only [put, app, af, aj, zE, zS, E])
 refine aq ?_
 refine hK4 _ ?_; clear hK4; refine ai [0, 1, 2, 3, 11] ?_; simp only [ad, lkp, zE, reduceCtorEq, J, ae, E]
 refine aL (by simp only [ev, ad, lkp, zE, reduceCtorEq, J, ae, E]; exact rfl) (fun hc8 => ?_) (fun hc8 => ?_)
 ·(try simp only [zB, reduceCtorEq] at hc8)
  refine ah fun K9 hK9 => ?_
  refine ao hP hN rfl ?_
  (refine ag rfl fun K0 aa => ?_; simp only [zE, op1, ev, lkp, am, ak, ev, reduceCtorEq, J, E, U, Z, V, Y, Tryd.td28, Mpr.av, Int.toNat_natCast]; refine aa _ ?_; clear aa K0; simp only [put, app, af, aj, zE, zS, E])
  refine aq ?_
  refine hK9 _ ?_; clear hK9; refine ai [0, 1, 2, 3, 11] ?_; simp only [ad, lkp, zE, reduceCtorEq, J, ae, E]
  refine aU ?_
  refine ⟨by first | exact .inl rfl | exact .inr rfl, _, rfl, ?_⟩; simp only [fzV, fz1, fzC, List.map_cons, List.map_nil, ad, lkp, zE, reduceCtorEq, J, ae, E, Mpr.av, Int.toNat_natCast]
  refine VLE.of_eq ?_
  refine congrArg (fun n => AV.one (AC.int IntKind.i64 n)) ?_
  unfold cP
  symm
  first
  | (rw [if_pos (by omega)]; done)
  | (rw [if_neg (by omega), if_pos (by omega)]; done)
  | (rw [if_neg (by omega), if_neg (by omega), if_pos (by omega)]; done)
  | (rw [if_neg (by omega), if_neg (by omega), if_neg (by omega), if_pos (by omega)]; done)
  | (rw [if_neg (by omega), if_neg (by omega), if_neg (by omega), if_neg (by omega), if_pos (by omega)]; done)
  | (rw [if_neg (by omega), if_neg (by omega), if_neg (by omega), if_neg (by omega), if_neg (by omega)]
     first
     | (exact bD hrows (by omega) (by assumption))
     | exact (bD hrows (by omega) (by rw [dx hl9]; decide)).trans (dx hl9)
     | exact (bD hrows (by omega) (by rw [dw hl9 (by omega) hb9]; decide)).trans (dw hl9 (by omega) hb9)
     | exact cd fun i hi => hrows i (by omega))
 ·(try simp only [zB, reduceCtorEq] at hc8)
  refine ah fun K10 hK10 => ?_
  refine ao hP hN rfl ?_
  iterate 3 (refine ag rfl fun K0 aa => ?_; simp only [zE, op1, ev, lkp, am, ak, aJ, aK, aI, ay, aH, aX, reduceCtorEq, J, E, U, Z, V, Y, Tryd.td3, Tryd.td4, Mpr.av, Int.toNat_natCast]; (repeat refine And.intro (by first | omega | assumption | exact rfl) ?_); refine aa _ ?_; clear aa K0; simp only [put, app, af, aj, zE, zS, E])
  refine aq ?_
  refine hK10 _ ?_; clear hK10; refine ai [0, 1, 2, 3, 11, 30] ?_; simp only [ad, lkp, zE, reduceCtorEq, J, ae, E]
  refine aL (by simp only [ev, ad, lkp, zE, reduceCtorEq, J, ae, E]; exact rfl) (fun hc11 => ?_) (fun hc11 => ?_)
  ·(try simp only [zB, reduceCtorEq] at hc11)
   refine ah fun K12 hK12 => ?_
   refine ao hP hN rfl ?_
   (refine ag rfl fun K0 aa => ?_; simp only [zE, op1, ev, lkp, am, ak, ev, reduceCtorEq, J, E, U, Z, V, Y, Tryd.td28, Mpr.av, Int.toNat_natCast]; refine aa _ ?_; clear aa K0; simp only [put, app, af, aj, zE, zS, E])
   refine aq ?_
   refine hK12 _ ?_; clear hK12; refine ai [0, 1, 2, 3, 11, 30] ?_; simp only [ad, lkp, zE, reduceCtorEq, J, ae, E]
   refine aU ?_
   refine ⟨by first | exact .inl rfl | exact .inr rfl, _, rfl, ?_⟩; simp only [fzV, fz1, fzC, List.map_cons, List.map_nil, ad, lkp, zE, reduceCtorEq, J, ae, E, Mpr.av, Int.toNat_natCast]
   refine VLE.of_eq ?_
   refine congrArg (fun n => AV.one (AC.int IntKind.i64 n)) ?_
   unfold cP
   symm
   first
   | (rw [if_pos (by omega)]; done)
   | (rw [if_neg (by omega), if_pos (by omega)]; done)
   | (rw [if_neg (by omega), if_neg (by omega), if_pos (by omega)]; done)
   | (rw [if_neg (by omega), if_neg (by omega), if_neg (by omega), if_pos (by omega)]; done)
   | (rw [if_neg (by omega), if_neg (by omega), if_neg (by omega), if_neg (by omega), if_pos (by omega)]; done)
   | (rw [if_neg (by omega), if_neg (by omega), if_neg (by omega), if_neg (by omega), if_neg (by omega)]
      first
      | (exact bD hrows (by omega) (by assumption))
      | exact (bD hrows (by omega) (by rw [dx hl9]; decide)).trans (dx hl9)
      | exact (bD hrows (by omega) (by rw [dw hl9 (by omega) hb9]; decide)).trans (dw hl9 (by omega) hb9)
      | exact cd fun i hi => hrows i (by omega))
  ·(try simp only [zB, reduceCtorEq] at hc11)
   refine ah fun K13 hK13 => ?_
   refine ao hP hN rfl ?_
   iterate 3 (refine ag rfl fun K0 aa => ?_; simp only [zE, op1, ev, lkp, am, ak, aJ, aK, aI, ay, aH, aX, reduceCtorEq, J, E, U, Z, V, Y, Tryd.td3, Tryd.td4, Mpr.av, Int.toNat_natCast]; (repeat refine And.intro (by first | omega | assumption | exact rfl) ?_); refine aa _ ?_; clear aa K0; simp only [put, app, af, aj, zE, zS, E])
   refine aq ?_
   refine hK13 _ ?_; clear hK13; refine ai [0, 1, 2, 3, 11, 30, 33] ?_; simp only [ad, lkp, zE, reduceCtorEq, J, ae, E]
   refine aL (by simp only [ev, ad, lkp, zE, reduceCtorEq, J, ae, E]; exact rfl) (fun hc14 => ?_) (fun hc14 => ?_)
   ·(try simp only [zB, reduceCtorEq] at hc14)
    refine ah fun K15 hK15 => ?_
    refine ao hP hN rfl ?_
    (refine ag rfl fun K0 aa => ?_; simp only [zE, op1, ev, lkp, am, ak, ev, reduceCtorEq, J, E, U, Z, V, Y, Tryd.td28, Mpr.av, Int.toNat_natCast]; refine aa _ ?_; clear aa K0; simp only [put, app, af, aj, zE, zS, E])
    refine aq ?_
    refine hK15 _ ?_; clear hK15; refine ai [0, 1, 2, 3, 11, 30, 33] ?_; simp only [ad, lkp, zE, reduceCtorEq, J, ae, E]
    refine aU ?_
    refine ⟨by first | exact .inl rfl | exact .inr rfl, _, rfl, ?_⟩; simp only [fzV, fz1, fzC, List.map_cons, List.map_nil, ad, lkp, zE, reduceCtorEq, J, ae, E, Mpr.av, Int.toNat_natCast]
    refine VLE.of_eq ?_
    refine congrArg (fun n => AV.one (AC.int IntKind.i64 n)) ?_
    unfold cP
    symm
    first
    | (rw [if_pos (by omega)]; done)
    | (rw [if_neg (by omega), if_pos (by omega)]; done)
    | (rw [if_neg (by omega), if_neg (by omega), if_pos (by omega)]; done)
    | (rw [if_neg (by omega), if_neg (by omega), if_neg (by omega), if_pos (by omega)]; done)
    | (rw [if_neg (by omega), if_neg (by omega), if_neg (by omega), if_neg (by omega), if_pos (by omega)]; done)
    | (rw [if_neg (by omega), if_neg (by omega), if_neg (by omega), if_neg (by omega), if_neg (by omega)]
       first
       | (exact bD hrows (by omega) (by assumption))
       | exact (bD hrows (by omega) (by rw [dx hl9]; decide)).trans (dx hl9)
       | exact (bD hrows (by omega) (by rw [dw hl9 (by omega) hb9]; decide)).trans (dw hl9 (by omega) hb9)
       | exact cd fun i hi => hrows i (by omega))
   ·(try simp only [zB, reduceCtorEq] at hc14)
    refine ah fun K16 hK16 => ?_
    refine ao hP hN rfl ?_
    iterate 3 (refine ag rfl fun K0 aa => ?_; simp only [zE, op1, ev, lkp, am, ak, aA, aE, Nat.mul_one, aC, aD, acs, Ty.dflt, zG, az, aJ, aK, aI, ay, aH, aX, reduceCtorEq, J, E, U, Z, V, Y, Tryd.st32, Tryd.td2, Tryd.td3, Tryd.td32, Tryd.td4, Mpr.av, Int.toNat_natCast]; (repeat refine And.intro (by first | omega | assumption | exact rfl) ?_); refine aa _ ?_; clear aa K0; simp only [put, app, af, aj, zE, zS, E])
    (refine ag rfl fun K0 aa => ?_; simp only [zE, op1, ev, lkp, am, ak, ev, reduceCtorEq, J, E, U, Z, V, Y, Tryd.td4, Mpr.av, Int.toNat_natCast]; refine aa _ ?_; clear aa K0; simp only [put, app, af, aj, zE, zS, E])
    refine' bn (want := false) 4 rfl (m := 40) (by simp only [ad, lkp, zE, reduceCtorEq, J, ae, E]; exact rfl) (by kernel_rfl) rfl rfl rfl rfl rfl (fun hg17 => ?a17) ?b17 ?c17
    case a17 =>
     have hq17 := hg17; (try simp only [zB, reduceCtorEq] at hg17); simp only [List.take_succ_cons, List.take_zero, List.cons_append, List.nil_append]
     (refine aG rfl fun K0 aa => ?_; simp only [zE, op1, ev, lkp, am, ak, aA, reduceCtorEq, J, E, U, Z, V, Y, Tryd.st32, Tryd.td2, Tryd.td32, Mpr.av, Int.toNat_natCast]; (repeat refine And.intro (by first | omega | assumption | exact rfl) ?_); refine aa _ ?_; clear aa K0; simp only [put, app, af, aj, zE, zS, E])
     (refine aG rfl fun K0 aa => ?_; simp only [zE, op1, ev, lkp, am, ak, aE, Nat.mul_one, aC, aD, acs, Ty.dflt, zG, az, reduceCtorEq, J, E, U, Z, V, Y, Tryd.td3, Mpr.av, Int.toNat_natCast]; (repeat refine And.intro (by first | omega | assumption | exact rfl) ?_); refine aa _ ?_; clear aa K0; simp only [put, app, af, aj, zE, zS, E])
     (refine aG rfl fun K0 aa => ?_; simp only [zE, op1, ev, lkp, am, ak, ev, reduceCtorEq, J, E, U, Z, V, Y, Tryd.td3, Mpr.av, Int.toNat_natCast]; refine aa _ ?_; clear aa K0; simp only [put, app, af, aj, zE, zS, E])
     (refine aG rfl fun K0 aa => ?_; simp only [zE, op1, ev, lkp, am, ak, aJ, aK, aI, ay, aH, aX, reduceCtorEq, J, E, U, Z, V, Y, Tryd.td3, Tryd.td4, Mpr.av, Int.toNat_natCast]; (repeat refine And.intro (by first | omega | assumption | exact rfl) ?_); refine aa _ ?_; clear aa K0; simp only [put, app, af, aj, zE, zS, E])
     (refine ag rfl fun K0 aa => ?_; simp only [zE, op1, ev, lkp, am, ak, bU, reduceCtorEq, J, E, U, Z, V, Y, Tryd.td4, Mpr.av, Int.toNat_natCast]; refine aa _ ?_; clear aa K0; simp only [put, app, af, aj, zE, zS, E])
     refine aq ?_
     refine ⟨by simp only [ad, lkp, zE, reduceCtorEq, J, ae, E]; exact rfl, rfl, ?_, rfl⟩; (repeat refine bo rfl ?_); exact bY (by exact rfl) hq17
    case b17 => exact bV (by first | rfl | (simp [cD]; done) | decide)
    simp only [bM, bB]
    (refine ag rfl fun K0 aa => ?_; simp only [zE, op1, ev, lkp, am, ak, ev, reduceCtorEq, J, E, U, Z, V, Y, Tryd.td4, Mpr.av, Int.toNat_natCast]; refine aa _ ?_; clear aa K0; simp only [put, app, af, aj, zE, zS, E])
    refine aq ?_
    refine hK16 _ ?_; clear hK16; refine ai [0, 1, 2, 3, 11, 30, 33, 36] ?_; simp only [ad, lkp, zE, reduceCtorEq, J, ae, E]
    refine aL (by simp only [ev, ad, lkp, zE, reduceCtorEq, J, ae, E]; exact rfl) (fun hc18 => ?_) (fun hc18 => ?_)
    ·(try simp only [zB, reduceCtorEq] at hc18)
     refine ah fun K19 hK19 => ?_
     refine ao hP hN rfl ?_
     (refine ag rfl fun K0 aa => ?_; simp only [zE, op1, ev, lkp, am, ak, ev, reduceCtorEq, J, E, U, Z, V, Y, Tryd.td28, Mpr.av, Int.toNat_natCast]; refine aa _ ?_; clear aa K0; simp only [put, app, af, aj, zE, zS, E])
     refine aq ?_
     refine hK19 _ ?_; clear hK19; refine ai [0, 1, 2, 3, 11, 30, 33, 36] ?_; simp only [ad, lkp, zE, reduceCtorEq, J, ae, E]
     refine aU ?_
     refine ⟨by first | exact .inl rfl | exact .inr rfl, _, rfl, ?_⟩; simp only [fzV, fz1, fzC, List.map_cons, List.map_nil, ad, lkp, zE, reduceCtorEq, J, ae, E, Mpr.av, Int.toNat_natCast]
     refine VLE.of_eq ?_
     refine congrArg (fun n => AV.one (AC.int IntKind.i64 n)) ?_
     unfold cP
     symm
     first
     | (rw [if_pos (by omega)]; done)
     | (rw [if_neg (by omega), if_pos (by omega)]; done)
     | (rw [if_neg (by omega), if_neg (by omega), if_pos (by omega)]; done)
     | (rw [if_neg (by omega), if_neg (by omega), if_neg (by omega), if_pos (by omega)]; done)
     | (rw [if_neg (by omega), if_neg (by omega), if_neg (by omega), if_neg (by omega), if_pos (by omega)]; done)
     | (rw [if_neg (by omega), if_neg (by omega), if_neg (by omega), if_neg (by omega), if_neg (by omega)]
        first
        | (exact bD hrows (by omega) (by assumption))
        | exact (bD hrows (by omega) (by rw [dx hl9]; decide)).trans (dx hl9)
        | exact (bD hrows (by omega) (by rw [dw hl9 (by omega) hb9]; decide)).trans (dw hl9 (by omega) hb9)
        | exact cd fun i hi => hrows i (by omega))
    ·(try simp only [zB, reduceCtorEq] at hc18)
     refine ah fun K20 hK20 => ?_
     refine ao hP hN rfl ?_
     iterate 6 (refine ag rfl fun K0 aa => ?_; simp only [zE, op1, ev, lkp, am, ak, aA, aE, Nat.mul_one, aC, aD, acs, Ty.dflt, zG, az, aP, bT, bC, bu, bv, bP, Nat.div_one, aV, bz, Ty.size, aM, dite_true, aJ, aK, aI, ay, aH, aX, reduceCtorEq, J, E, U, Z, V, Y, Tryd.el22, Tryd.st32, Tryd.td22, Tryd.td3, Tryd.td32, Tryd.td4, Mpr.av, Int.toNat_natCast]; (repeat refine And.intro (by first | omega | assumption | exact rfl) ?_); (first | refine aa _ ?_ | refine Or.inl (aa _ ?_)); clear aa K0; simp only [put, app, af, aj, zE, zS, E])
     refine aq ?_
     refine hK20 _ ?_; clear hK20; refine ai [0, 1, 2, 3, 11, 30, 33, 36, 46] ?_; simp only [ad, lkp, zE, reduceCtorEq, J, ae, E]
     refine aL (by simp only [ev, ad, lkp, zE, reduceCtorEq, J, ae, E]; exact rfl) (fun hc21 => ?_) (fun hc21 => ?_)
     ·(try simp only [zB, reduceCtorEq] at hc21)
      refine ah fun K22 hK22 => ?_
      refine ao hP hN rfl ?_
      (refine ag rfl fun K0 aa => ?_; simp only [zE, op1, ev, lkp, am, ak, ev, reduceCtorEq, J, E, U, Z, V, Y, Tryd.td28, Mpr.av, Int.toNat_natCast]; refine aa _ ?_; clear aa K0; simp only [put, app, af, aj, zE, zS, E])
      refine aq ?_
      refine hK22 _ ?_; clear hK22; refine ai [0, 1, 2, 3, 11, 30, 33, 36, 46] ?_; simp only [ad, lkp, zE, reduceCtorEq, J, ae, E]
      refine aU ?_
      refine ⟨by first | exact .inl rfl | exact .inr rfl, _, rfl, ?_⟩; simp only [fzV, fz1, fzC, List.map_cons, List.map_nil, ad, lkp, zE, reduceCtorEq, J, ae, E, Mpr.av, Int.toNat_natCast]
      refine VLE.of_eq ?_
      refine congrArg (fun n => AV.one (AC.int IntKind.i64 n)) ?_
      unfold cP
      symm
      first
      | (rw [if_pos (by omega)]; done)
      | (rw [if_neg (by omega), if_pos (by omega)]; done)
      | (rw [if_neg (by omega), if_neg (by omega), if_pos (by omega)]; done)
      | (rw [if_neg (by omega), if_neg (by omega), if_neg (by omega), if_pos (by omega)]; done)
      | (rw [if_neg (by omega), if_neg (by omega), if_neg (by omega), if_neg (by omega), if_pos (by omega)]; done)
      | (rw [if_neg (by omega), if_neg (by omega), if_neg (by omega), if_neg (by omega), if_neg (by omega)]
         first
         | (exact bD hrows (by omega) (by assumption))
         | exact (bD hrows (by omega) (by rw [dx hl9]; decide)).trans (dx hl9)
         | exact (bD hrows (by omega) (by rw [dw hl9 (by omega) hb9]; decide)).trans (dw hl9 (by omega) hb9)
         | exact cd fun i hi => hrows i (by omega))
     ·(try simp only [zB, reduceCtorEq] at hc21)
      refine aT ?_
      refine hK3 _ ?_; clear hK3; refine ai [0, 1, 2, 3, 11, 30, 33, 36, 46] ?_; simp only [ad, lkp, zE, reduceCtorEq, J, ae, E]
      refine ah fun K23 hK23 => ?_
      refine ah fun K24 hK24 => ?_
      refine ao hP hN rfl ?_
      iterate 2 (refine ag rfl fun K0 aa => ?_; simp only [zE, op1, ev, lkp, am, ak, ev, reduceCtorEq, J, E, U, Z, V, Y, Tryd.td3, Mpr.av, Int.toNat_natCast]; refine aa _ ?_; clear aa K0; simp only [put, app, af, aj, zE, zS, E])
      refine aq ?_
      refine hK24 _ ?_; clear hK24; refine ai [0, 1, 2, 3, 11, 30, 33, 36, 46, 52, 53] ?_; simp only [ad, lkp, zE, reduceCtorEq, J, ae, E]
      refine b8 ?_
      refine cj (fun n25 s25 => ∃ (k : Nat), (k ≤ p.nx.length) ∧ (∀ i, i < k → jT p i = 0) ∧ n25 = p.nx.length - k ∧ s25 = { env := [(1, .one (.ptr 0 0 0 0)), (2, .one (.int .i64 0)), (3, .one (.int .i64 (p.nx.length : Int))), (52, .one (.int .i64 (p.nx.length : Int))), (53, .one (.int .i64 (k : Int)))], L := [.vars 32 [.int .i64 p.inp, .int .i64 p.ab, .int .i64 p.st, .list (.list (.int .i64)) p.nx, .list (.list (.int .i64)) p.sy]] }) ?_ ?_
      ·exact ⟨_, _, aY [1, 2, 3, 52, 53], 0, Nat.zero_le _, fun i hi => by omega, rfl, rfl⟩
      ·rintro n25 s25 ⟨k, hk, hrows, rfl, rfl⟩
       refine ah fun K26 hK26 => ?_
       refine ao hP hN rfl ?_
       (refine ag rfl fun K0 aa => ?_; simp only [zE, op1, ev, lkp, am, ak, aJ, aK, aI, ay, aH, aX, reduceCtorEq, J, E, U, Z, V, Y, Tryd.td3, Tryd.td4, Mpr.av, Int.toNat_natCast]; (repeat refine And.intro (by first | omega | assumption | exact rfl) ?_); refine aa _ ?_; clear aa K0; simp only [put, app, af, aj, zE, zS, E])
       refine aq ?_
       refine hK26 _ ?_; clear hK26; refine ai [1, 2, 3, 52, 53, 54] ?_; simp only [ad, lkp, zE, reduceCtorEq, J, ae, E]
       refine ah fun K27 hK27 => ?_
       refine aL (by simp only [ev, ad, lkp, zE, reduceCtorEq, J, ae, E]; exact rfl) (fun hc28 => ?_) (fun hc28 => ?_)
       ·(try simp only [zB, reduceCtorEq] at hc28)
        refine aT ?_
        refine hK27 _ ?_; clear hK27; refine ai [1, 2, 3, 52, 53, 54] ?_; simp only [ad, lkp, zE, reduceCtorEq, J, ae, E]
        refine ah fun K29 hK29 => ?_
        refine b8 ?_
        refine ah fun K30 hK30 => ?_
        refine ao hP hN rfl ?_
        iterate 2 (refine ag rfl fun K0 aa => ?_; simp only [zE, op1, ev, lkp, am, ak, ev, reduceCtorEq, J, E, U, Z, V, Y, Tryd.td3, Mpr.av, Int.toNat_natCast]; refine aa _ ?_; clear aa K0; simp only [put, app, af, aj, zE, zS, E])
        refine aq ?_
        refine hK30 _ ?_; clear hK30; refine ai [1, 2, 3, 4, 52, 53, 54] ?_; simp only [ad, lkp, zE, reduceCtorEq, J, ae, E]
        refine ah fun K31 hK31 => ?_
        refine ah fun K32 hK32 => ?_
        refine cB hP hN Tryd.mixed rfl ?_
        iterate 9 (refine ag rfl fun K0 aa => ?_; simp only [zE, op1, ev, lkp, am, ak, aA, aE, Nat.mul_one, aC, aD, acs, Ty.dflt, zG, az, aS, Ty.size, ne_eq, not_false_eq_true, Int.natCast_one, Int.mul_one, aP, bT, bC, bu, bv, bP, Nat.div_one, aV, bz, aM, dite_true, aJ, aK, aI, ay, aH, aX, reduceCtorEq, J, E, U, Z, V, Y, Tryd.el22, Tryd.el25, Tryd.st32, Tryd.td22, Tryd.td25, Tryd.td3, Tryd.td32, Tryd.td4, Mpr.av, Int.toNat_natCast]; (repeat refine And.intro (by first | omega | assumption | exact rfl) ?_); (first | refine aa _ ?_ | refine Or.inl (aa _ ?_)); clear aa K0; simp only [put, app, af, aj, zE, zS, E])
        (refine ag rfl fun K0 aa => ?_; simp only [zE, op1, ev, lkp, am, ak, ev, reduceCtorEq, J, E, U, Z, V, Y, Tryd.td4, Mpr.av, Int.toNat_natCast]; refine aa _ ?_; clear aa K0; simp only [put, app, af, aj, zE, zS, E])
        refine' bn (want := false) 9 rfl (m := 65) (by simp only [ad, lkp, zE, reduceCtorEq, J, ae, E]; exact rfl) (by kernel_rfl) rfl rfl rfl rfl rfl (fun hg33 => ?a33) ?b33 ?c33
        case a33 =>
         have hq33 := hg33; (try simp only [zB, reduceCtorEq] at hg33); simp only [List.take_succ_cons, List.take_zero, List.cons_append, List.nil_append]
         (refine aG rfl fun K0 aa => ?_; simp only [zE, op1, ev, lkp, am, ak, aA, reduceCtorEq, J, E, U, Z, V, Y, Tryd.st32, Tryd.td32, Tryd.td4, Mpr.av, Int.toNat_natCast]; (repeat refine And.intro (by first | omega | assumption | exact rfl) ?_); refine aa _ ?_; clear aa K0; simp only [put, app, af, aj, zE, zS, E])
         (refine aG rfl fun K0 aa => ?_; simp only [zE, op1, ev, lkp, am, ak, aE, Nat.mul_one, aC, aD, acs, Ty.dflt, zG, az, reduceCtorEq, J, E, U, Z, V, Y, Tryd.el22, Tryd.td22, Mpr.av, Int.toNat_natCast]; (repeat refine And.intro (by first | omega | assumption | exact rfl) ?_); refine aa _ ?_; clear aa K0; simp only [put, app, af, aj, zE, zS, E])
         (refine aG rfl fun K0 aa => ?_; simp only [zE, op1, ev, lkp, am, ak, ev, reduceCtorEq, J, E, U, Z, V, Y, Tryd.td3, Mpr.av, Int.toNat_natCast]; refine aa _ ?_; clear aa K0; simp only [put, app, af, aj, zE, zS, E])
         (refine aG rfl fun K0 aa => ?_; simp only [zE, op1, ev, lkp, am, ak, aS, zG, Ty.dflt, Ty.size, Nat.mul_one, ne_eq, not_false_eq_true, Int.natCast_one, Int.mul_one, reduceCtorEq, J, E, U, Z, V, Y, Tryd.el22, Tryd.td22, Mpr.av, Int.toNat_natCast]; (repeat refine And.intro (by first | omega | assumption | exact rfl) ?_); refine aa _ ?_; clear aa K0; simp only [put, app, af, aj, zE, zS, E])
         (refine aG rfl fun K0 aa => ?_; simp only [zE, op1, ev, lkp, am, ak, aE, Nat.mul_one, aC, aD, acs, Ty.dflt, zG, az, reduceCtorEq, J, E, U, Z, V, Y, Tryd.el25, Tryd.td25, Mpr.av, Int.toNat_natCast]; (repeat refine And.intro (by first | omega | assumption | exact rfl) ?_); refine aa _ ?_; clear aa K0; simp only [put, app, af, aj, zE, zS, E])
         (refine aG rfl fun K0 aa => ?_; simp only [zE, op1, ev, lkp, am, ak, aP, bT, bC, bu, bv, bP, Nat.div_one, aV, bz, Ty.size, aM, dite_true, reduceCtorEq, J, E, U, Z, V, Y, Tryd.el25, Tryd.td25, Tryd.td3, Mpr.av, Int.toNat_natCast]; (repeat refine And.intro (by first | omega | assumption | exact rfl) ?_); (first | refine aa _ ?_ | refine Or.inl (aa _ ?_)); clear aa K0; simp only [put, app, af, aj, zE, zS, E])
         (refine aG rfl fun K0 aa => ?_; simp only [zE, op1, ev, lkp, am, ak, aA, reduceCtorEq, J, E, U, Z, V, Y, Tryd.st32, Tryd.td32, Mpr.av, Int.toNat_natCast]; (repeat refine And.intro (by first | omega | assumption | exact rfl) ?_); refine aa _ ?_; clear aa K0; simp only [put, app, af, aj, zE, zS, E])
         (refine aG rfl fun K0 aa => ?_; simp only [zE, op1, ev, lkp, am, ak, aE, Nat.mul_one, aC, aD, acs, Ty.dflt, zG, az, reduceCtorEq, J, E, U, Z, V, Y, Tryd.td3, Mpr.av, Int.toNat_natCast]; (repeat refine And.intro (by first | omega | assumption | exact rfl) ?_); refine aa _ ?_; clear aa K0; simp only [put, app, af, aj, zE, zS, E])
         (refine aG rfl fun K0 aa => ?_; simp only [zE, op1, ev, lkp, am, ak, aJ, aK, aI, ay, aH, aX, reduceCtorEq, J, E, U, Z, V, Y, Tryd.td3, Tryd.td4, Mpr.av, Int.toNat_natCast]; (repeat refine And.intro (by first | omega | assumption | exact rfl) ?_); refine aa _ ?_; clear aa K0; simp only [put, app, af, aj, zE, zS, E])
         (refine ag rfl fun K0 aa => ?_; simp only [zE, op1, ev, lkp, am, ak, bU, reduceCtorEq, J, E, U, Z, V, Y, Tryd.td4, Mpr.av, Int.toNat_natCast]; refine aa _ ?_; clear aa K0; simp only [put, app, af, aj, zE, zS, E])
         refine aq ?_
         refine ⟨by simp only [ad, lkp, zE, reduceCtorEq, J, ae, E]; exact rfl, rfl, ?_, rfl⟩; (repeat refine bo rfl ?_); exact bY (by exact rfl) hq33
        case b33 => exact bV (by first | rfl | (simp [cD]; done) | decide)
        simp only [bM, bB]
        refine aq ?_
        refine ⟨by kernel_rfl, ?_⟩
        refine hK32 _ ?_; clear hK32; refine ai [1, 2, 3, 4, 52, 53, 54, 75] ?_; simp only [ad, lkp, zE, reduceCtorEq, J, ae, E]
        refine aL (by simp only [ev, ad, lkp, zE, reduceCtorEq, J, ae, E]; exact rfl) (fun hc34 => ?_) (fun hc34 => ?_)
        ·(try simp only [zB, reduceCtorEq] at hc34)
         have hl9 : ¬ ((p.nx.getD k []).length : Int) = p.inp ∨ ¬ ((p.sy.getD k []).length : Int) = p.inp := by omega
         refine ah fun K35 hK35 => ?_
         refine ao hP hN rfl ?_
         (refine ag rfl fun K0 aa => ?_; simp only [zE, op1, ev, lkp, am, ak, ev, reduceCtorEq, J, E, U, Z, V, Y, Tryd.td28, Mpr.av, Int.toNat_natCast]; refine aa _ ?_; clear aa K0; simp only [put, app, af, aj, zE, zS, E])
         refine aq ?_
         refine hK35 _ ?_; clear hK35; refine ai [1, 2, 3, 4, 52, 53, 54, 75] ?_; simp only [ad, lkp, zE, reduceCtorEq, J, ae, E]
         refine aU ?_
         refine ⟨by first | exact .inl rfl | exact .inr rfl, _, rfl, ?_⟩; simp only [fzV, fz1, fzC, List.map_cons, List.map_nil, ad, lkp, zE, reduceCtorEq, J, ae, E, Mpr.av, Int.toNat_natCast]
         refine VLE.of_eq ?_
         refine congrArg (fun n => AV.one (AC.int IntKind.i64 n)) ?_
         unfold cP
         symm
         first
         | (rw [if_pos (by omega)]; done)
         | (rw [if_neg (by omega), if_pos (by omega)]; done)
         | (rw [if_neg (by omega), if_neg (by omega), if_pos (by omega)]; done)
         | (rw [if_neg (by omega), if_neg (by omega), if_neg (by omega), if_pos (by omega)]; done)
         | (rw [if_neg (by omega), if_neg (by omega), if_neg (by omega), if_neg (by omega), if_pos (by omega)]; done)
         | (rw [if_neg (by omega), if_neg (by omega), if_neg (by omega), if_neg (by omega), if_neg (by omega)]
            first
            | (exact bD hrows (by omega) (by assumption))
            | exact (bD hrows (by omega) (by rw [dx hl9]; decide)).trans (dx hl9)
            | exact (bD hrows (by omega) (by rw [dw hl9 (by omega) hb9]; decide)).trans (dw hl9 (by omega) hb9)
            | exact cd fun i hi => hrows i (by omega))
        ·(try simp only [zB, reduceCtorEq] at hc34)
         have hl9 : ((p.nx.getD k []).length : Int) = p.inp ∧ ((p.sy.getD k []).length : Int) = p.inp := by omega
         refine aT ?_
         refine hK31 _ ?_; clear hK31; refine ai [1, 2, 3, 4, 52, 53, 54, 75] ?_; simp only [ad, lkp, zE, reduceCtorEq, J, ae, E]
         refine ah fun K36 hK36 => ?_
         refine ao hP hN rfl ?_
         iterate 3 (refine ag rfl fun K0 aa => ?_; simp only [zE, op1, ev, lkp, am, ak, aA, aE, Nat.mul_one, aC, aD, acs, Ty.dflt, zG, az, reduceCtorEq, J, E, U, Z, V, Y, Tryd.st32, Tryd.td3, Tryd.td32, Mpr.av, Int.toNat_natCast]; (repeat refine And.intro (by first | omega | assumption | exact rfl) ?_); refine aa _ ?_; clear aa K0; simp only [put, app, af, aj, zE, zS, E])
         refine aq ?_
         refine hK36 _ ?_; clear hK36; refine ai [1, 2, 3, 4, 52, 53, 54, 75, 77, 78] ?_; simp only [ad, lkp, zE, reduceCtorEq, J, ae, E]
         refine b8 ?_
         refine cj (fun n37 s37 => ∃ (c : Nat), ((c : Int) ≤ p.inp) ∧ (∀ q, q < c → ¬ p.bad k q) ∧ n37 = p.inp.toNat - c ∧ s37 = { env := [(1, .one (.ptr 0 0 0 0)), (2, .one (.int .i64 0)), (3, .one (.int .i64 (p.nx.length : Int))), (4, .one (.int .i64 (k : Int))), (52, .one (.int .i64 (p.nx.length : Int))), (53, .one (.int .i64 (k : Int))), (77, .one (.int .i64 p.inp)), (78, .one (.int .i64 (c : Int)))], L := [.vars 32 [.int .i64 p.inp, .int .i64 p.ab, .int .i64 p.st, .list (.list (.int .i64)) p.nx, .list (.list (.int .i64)) p.sy]] }) ?_ ?_
         ·exact ⟨_, _, aY [1, 2, 3, 4, 52, 53, 77, 78], 0, by omega, fun q hq => by omega, rfl, rfl⟩
         ·rintro n37 s37 ⟨c, hc, hq, rfl, rfl⟩
          refine ah fun K38 hK38 => ?_
          refine ao hP hN rfl ?_
          (refine ag rfl fun K0 aa => ?_; simp only [zE, op1, ev, lkp, am, ak, aJ, aK, aI, ay, aH, aX, reduceCtorEq, J, E, U, Z, V, Y, Tryd.td3, Tryd.td4, Mpr.av, Int.toNat_natCast]; (repeat refine And.intro (by first | omega | assumption | exact rfl) ?_); refine aa _ ?_; clear aa K0; simp only [put, app, af, aj, zE, zS, E])
          refine aq ?_
          refine hK38 _ ?_; clear hK38; refine ai [1, 2, 3, 4, 52, 53, 77, 78, 79] ?_; simp only [ad, lkp, zE, reduceCtorEq, J, ae, E]
          refine ah fun K39 hK39 => ?_
          refine aL (by simp only [ev, ad, lkp, zE, reduceCtorEq, J, ae, E]; exact rfl) (fun hc40 => ?_) (fun hc40 => ?_)
          ·(try simp only [zB, reduceCtorEq] at hc40)
           refine aT ?_
           refine hK39 _ ?_; clear hK39; refine ai [1, 2, 3, 4, 52, 53, 77, 78, 79] ?_; simp only [ad, lkp, zE, reduceCtorEq, J, ae, E]
           refine ah fun K41 hK41 => ?_
           refine b8 ?_
           refine ah fun K42 hK42 => ?_
           refine ao hP hN rfl ?_
           iterate 2 (refine ag rfl fun K0 aa => ?_; simp only [zE, op1, ev, lkp, am, ak, ev, reduceCtorEq, J, E, U, Z, V, Y, Tryd.td3, Mpr.av, Int.toNat_natCast]; refine aa _ ?_; clear aa K0; simp only [put, app, af, aj, zE, zS, E])
           refine aq ?_
           refine hK42 _ ?_; clear hK42; refine ai [1, 2, 3, 4, 5, 52, 53, 77, 78, 79] ?_; simp only [ad, lkp, zE, reduceCtorEq, J, ae, E]
           refine ah fun K43 hK43 => ?_
           refine cB hP hN Tryd.mixed rfl ?_
           iterate 18 (refine ag rfl fun K0 aa => ?_; simp only [zE, op1, ev, lkp, am, ak, aA, aE, Nat.mul_one, aC, aD, acs, Ty.dflt, zG, az, aS, Ty.size, ne_eq, not_false_eq_true, Int.natCast_one, Int.mul_one, reduceCtorEq, J, E, U, Z, V, Y, Tryd.el22, Tryd.el25, Tryd.st32, Tryd.td22, Tryd.td25, Tryd.td3, Tryd.td32, Tryd.td4, Mpr.av, Int.toNat_natCast]; (repeat refine And.intro (by first | omega | assumption | exact rfl) ?_); refine aa _ ?_; clear aa K0; simp only [put, app, af, aj, zE, zS, E])
           refine aq ?_
           refine ⟨by kernel_rfl, ?_⟩
           refine hK43 _ ?_; clear hK43; refine ai [1, 2, 3, 4, 5, 6, 7, 52, 53, 77, 78, 79] ?_; simp only [ad, lkp, zE, reduceCtorEq, J, ae, E]
           refine ah fun K44 hK44 => ?_
           refine ao hP hN rfl ?_
           iterate 2 (refine ag rfl fun K0 aa => ?_; simp only [zE, op1, ev, lkp, am, ak, aJ, aK, aI, ay, aH, aX, reduceCtorEq, J, E, U, Z, V, Y, Tryd.td3, Tryd.td4, Mpr.av, Int.toNat_natCast]; (repeat refine And.intro (by first | omega | assumption | exact rfl) ?_); refine aa _ ?_; clear aa K0; simp only [put, app, af, aj, zE, zS, E])
           (refine ag rfl fun K0 aa => ?_; simp only [zE, op1, ev, lkp, am, ak, ev, reduceCtorEq, J, E, U, Z, V, Y, Tryd.td4, Mpr.av, Int.toNat_natCast]; refine aa _ ?_; clear aa K0; simp only [put, app, af, aj, zE, zS, E])
           refine' bn (want := false) 3 rfl (m := 99) (by simp only [ad, lkp, zE, reduceCtorEq, J, ae, E]; exact rfl) (by kernel_rfl) rfl rfl rfl rfl rfl (fun hg45 => ?a45) ?b45 ?c45
           case a45 =>
            have hq45 := hg45; (try simp only [zB, reduceCtorEq] at hg45); simp only [List.take_succ_cons, List.take_zero, List.cons_append, List.nil_append]
            (refine aG rfl fun K0 aa => ?_; simp only [zE, op1, ev, lkp, am, ak, ev, reduceCtorEq, J, E, U, Z, V, Y, Tryd.td3, Mpr.av, Int.toNat_natCast]; refine aa _ ?_; clear aa K0; simp only [put, app, af, aj, zE, zS, E])
            (refine aG rfl fun K0 aa => ?_; simp only [zE, op1, ev, lkp, am, ak, ev, reduceCtorEq, J, E, U, Z, V, Y, Tryd.td3, Mpr.av, Int.toNat_natCast]; refine aa _ ?_; clear aa K0; simp only [put, app, af, aj, zE, zS, E])
            (refine aG rfl fun K0 aa => ?_; simp only [zE, op1, ev, lkp, am, ak, aJ, aK, aI, ay, aH, aX, reduceCtorEq, J, E, U, Z, V, Y, Tryd.td3, Tryd.td4, Mpr.av, Int.toNat_natCast]; (repeat refine And.intro (by first | omega | assumption | exact rfl) ?_); refine aa _ ?_; clear aa K0; simp only [put, app, af, aj, zE, zS, E])
            (refine ag rfl fun K0 aa => ?_; simp only [zE, op1, ev, lkp, am, ak, bU, reduceCtorEq, J, E, U, Z, V, Y, Tryd.td4, Mpr.av, Int.toNat_natCast]; refine aa _ ?_; clear aa K0; simp only [put, app, af, aj, zE, zS, E])
            refine aq ?_
            refine ⟨by simp only [ad, lkp, zE, reduceCtorEq, J, ae, E]; exact rfl, rfl, ?_, rfl⟩; (repeat refine bo rfl ?_); exact bY (by exact rfl) hq45
           case b45 => exact bV (by first | rfl | (simp [cD]; done) | decide)
           simp only [bM, bB]
           (refine ag rfl fun K0 aa => ?_; simp only [zE, op1, ev, lkp, am, ak, ev, reduceCtorEq, J, E, U, Z, V, Y, Tryd.td4, Mpr.av, Int.toNat_natCast]; refine aa _ ?_; clear aa K0; simp only [put, app, af, aj, zE, zS, E])
           refine' bn (want := false) 2 rfl (m := 104) (by simp only [ad, lkp, zE, reduceCtorEq, J, ae, E]; exact rfl) (by kernel_rfl) rfl rfl rfl rfl rfl (fun hg46 => ?a46) ?b46 ?c46
           case a46 =>
            have hq46 := hg46; (try simp only [zB, reduceCtorEq] at hg46); simp only [List.take_succ_cons, List.take_zero, List.cons_append, List.nil_append]
            (refine aG rfl fun K0 aa => ?_; simp only [zE, op1, ev, lkp, am, ak, ev, reduceCtorEq, J, E, U, Z, V, Y, Tryd.td3, Mpr.av, Int.toNat_natCast]; refine aa _ ?_; clear aa K0; simp only [put, app, af, aj, zE, zS, E])
            (refine aG rfl fun K0 aa => ?_; simp only [zE, op1, ev, lkp, am, ak, aJ, aK, aI, ay, aH, aX, reduceCtorEq, J, E, U, Z, V, Y, Tryd.td3, Tryd.td4, Mpr.av, Int.toNat_natCast]; (repeat refine And.intro (by first | omega | assumption | exact rfl) ?_); refine aa _ ?_; clear aa K0; simp only [put, app, af, aj, zE, zS, E])
            (refine ag rfl fun K0 aa => ?_; simp only [zE, op1, ev, lkp, am, ak, bU, reduceCtorEq, J, E, U, Z, V, Y, Tryd.td4, Mpr.av, Int.toNat_natCast]; refine aa _ ?_; clear aa K0; simp only [put, app, af, aj, zE, zS, E])
            refine aq ?_
            refine ⟨by simp only [ad, lkp, zE, reduceCtorEq, J, ae, E]; exact rfl, rfl, ?_, rfl⟩; (repeat refine bo rfl ?_); exact bY (by exact rfl) hq46
           case b46 => exact bV (by first | rfl | (simp [cD]; done) | decide)
           simp only [bM, bB]
           (refine ag rfl fun K0 aa => ?_; simp only [zE, op1, ev, lkp, am, ak, ev, reduceCtorEq, J, E, U, Z, V, Y, Tryd.td4, Mpr.av, Int.toNat_natCast]; refine aa _ ?_; clear aa K0; simp only [put, app, af, aj, zE, zS, E])
           refine' bn (want := false) 4 rfl (m := 108) (by simp only [ad, lkp, zE, reduceCtorEq, J, ae, E]; exact rfl) (by kernel_rfl) rfl rfl rfl rfl rfl (fun hg47 => ?a47) ?b47 ?c47
           case a47 =>
            have hq47 := hg47; (try simp only [zB, reduceCtorEq] at hg47); simp only [List.take_succ_cons, List.take_zero, List.cons_append, List.nil_append]
            (refine aG rfl fun K0 aa => ?_; simp only [zE, op1, ev, lkp, am, ak, ev, reduceCtorEq, J, E, U, Z, V, Y, Tryd.td3, Mpr.av, Int.toNat_natCast]; refine aa _ ?_; clear aa K0; simp only [put, app, af, aj, zE, zS, E])
            (refine aG rfl fun K0 aa => ?_; simp only [zE, op1, ev, lkp, am, ak, aA, reduceCtorEq, J, E, U, Z, V, Y, Tryd.st32, Tryd.td1, Tryd.td32, Mpr.av, Int.toNat_natCast]; (repeat refine And.intro (by first | omega | assumption | exact rfl) ?_); refine aa _ ?_; clear aa K0; simp only [put, app, af, aj, zE, zS, E])
            (refine aG rfl fun K0 aa => ?_; simp only [zE, op1, ev, lkp, am, ak, aE, Nat.mul_one, aC, aD, acs, Ty.dflt, zG, az, reduceCtorEq, J, E, U, Z, V, Y, Tryd.td3, Mpr.av, Int.toNat_natCast]; (repeat refine And.intro (by first | omega | assumption | exact rfl) ?_); refine aa _ ?_; clear aa K0; simp only [put, app, af, aj, zE, zS, E])
            (refine aG rfl fun K0 aa => ?_; simp only [zE, op1, ev, lkp, am, ak, aJ, aK, aI, ay, aH, aX, reduceCtorEq, J, E, U, Z, V, Y, Tryd.td3, Tryd.td4, Mpr.av, Int.toNat_natCast]; (repeat refine And.intro (by first | omega | assumption | exact rfl) ?_); refine aa _ ?_; clear aa K0; simp only [put, app, af, aj, zE, zS, E])
            (refine ag rfl fun K0 aa => ?_; simp only [zE, op1, ev, lkp, am, ak, bU, reduceCtorEq, J, E, U, Z, V, Y, Tryd.td4, Mpr.av, Int.toNat_natCast]; refine aa _ ?_; clear aa K0; simp only [put, app, af, aj, zE, zS, E])
            refine aq ?_
            refine ⟨by simp only [ad, lkp, zE, reduceCtorEq, J, ae, E]; exact rfl, rfl, ?_, rfl⟩; (repeat refine bo rfl ?_); exact bY (by exact rfl) hq47
           case b47 => exact bV (by first | rfl | (simp [cD]; done) | decide)
           simp only [bM, bB]
           refine aq ?_
           refine hK44 _ ?_; clear hK44; refine ai [1, 2, 3, 4, 5, 6, 7, 52, 53, 77, 78, 79, 113] ?_; simp only [ad, lkp, zE, reduceCtorEq, J, ae, E]
           refine aL (by simp only [ev, ad, lkp, zE, reduceCtorEq, J, ae, E]; exact rfl) (fun hc48 => ?_) (fun hc48 => ?_)
           ·(try simp only [zB, reduceCtorEq] at hc48)
            have hb9 : p.bad k c := by unfold Mpr.bad; omega
            refine ah fun K49 hK49 => ?_
            refine ao hP hN rfl ?_
            (refine ag rfl fun K0 aa => ?_; simp only [zE, op1, ev, lkp, am, ak, ev, reduceCtorEq, J, E, U, Z, V, Y, Tryd.td28, Mpr.av, Int.toNat_natCast]; refine aa _ ?_; clear aa K0; simp only [put, app, af, aj, zE, zS, E])
            refine aq ?_
            refine hK49 _ ?_; clear hK49; refine ai [1, 2, 3, 4, 5, 6, 7, 52, 53, 77, 78, 79, 113] ?_; simp only [ad, lkp, zE, reduceCtorEq, J, ae, E]
            refine aU ?_
            refine ⟨by first | exact .inl rfl | exact .inr rfl, _, rfl, ?_⟩; simp only [fzV, fz1, fzC, List.map_cons, List.map_nil, ad, lkp, zE, reduceCtorEq, J, ae, E, Mpr.av, Int.toNat_natCast]
            refine VLE.of_eq ?_
            refine congrArg (fun n => AV.one (AC.int IntKind.i64 n)) ?_
            unfold cP
            symm
            first
            | (rw [if_pos (by omega)]; done)
            | (rw [if_neg (by omega), if_pos (by omega)]; done)
            | (rw [if_neg (by omega), if_neg (by omega), if_pos (by omega)]; done)
            | (rw [if_neg (by omega), if_neg (by omega), if_neg (by omega), if_pos (by omega)]; done)
            | (rw [if_neg (by omega), if_neg (by omega), if_neg (by omega), if_neg (by omega), if_pos (by omega)]; done)
            | (rw [if_neg (by omega), if_neg (by omega), if_neg (by omega), if_neg (by omega), if_neg (by omega)]
               first
               | (exact bD hrows (by omega) (by assumption))
               | exact (bD hrows (by omega) (by rw [dx hl9]; decide)).trans (dx hl9)
               | exact (bD hrows (by omega) (by rw [dw hl9 (by omega) hb9]; decide)).trans (dw hl9 (by omega) hb9)
               | exact cd fun i hi => hrows i (by omega))
           ·(try simp only [zB, reduceCtorEq] at hc48)
            have hb9 : ¬ p.bad k c := by unfold Mpr.bad; omega
            refine aT ?_
            refine hK41 _ ?_; clear hK41; refine ai [1, 2, 3, 4, 5, 6, 7, 52, 53, 77, 78, 79, 113] ?_; simp only [ad, lkp, zE, reduceCtorEq, J, ae, E]
            refine ao hP hN rfl ?_
            iterate 2 (refine ag rfl fun K0 aa => ?_; simp only [zE, op1, ev, lkp, am, ak, aJ, aK, aI, ay, aH, aX, reduceCtorEq, J, E, U, Z, V, Y, Tryd.td3, Mpr.av, Int.toNat_natCast]; (repeat refine And.intro (by first | omega | assumption | exact rfl) ?_); refine aa _ ?_; clear aa K0; simp only [put, app, af, aj, zE, zS, E])
            refine aq ?_
            refine ⟨_, _, ?_, aY [1, 2, 3, 4, 52, 53, 77, 78], c + 1, by omega, fun q hq2 => ?_, rfl, rfl⟩
            · omega
            · by_cases e : q = c
              · rw [e]; exact hb9
              · exact hq q (by omega)
          ·(try simp only [zB, reduceCtorEq] at hc40)
           refine cm ?_
           refine hK29 _ ?_; clear hK29; refine ai [1, 2, 3, 4, 52, 53, 77, 78, 79] ?_; simp only [ad, lkp, zE, reduceCtorEq, J, ae, E]
           refine ao hP hN rfl ?_
           iterate 2 (refine ag rfl fun K0 aa => ?_; simp only [zE, op1, ev, lkp, am, ak, aJ, aK, aI, ay, aH, aX, reduceCtorEq, J, E, U, Z, V, Y, Tryd.td3, Mpr.av, Int.toNat_natCast]; (repeat refine And.intro (by first | omega | assumption | exact rfl) ?_); refine aa _ ?_; clear aa K0; simp only [put, app, af, aj, zE, zS, E])
           refine aq ?_
           refine ⟨_, _, ?_, aY [1, 2, 3, 52, 53], k + 1, by omega, fun i hi => ?_, rfl, rfl⟩
           · omega
           · by_cases e : i = k
             · rw [e]; exact t3 hl9 fun q hq2 => hq q (by omega)
             · exact hrows i (by omega)
       ·(try simp only [zB, reduceCtorEq] at hc28)
        refine cm ?_
        refine hK23 _ ?_; clear hK23; refine ai [1, 2, 3, 52, 53, 54] ?_; simp only [ad, lkp, zE, reduceCtorEq, J, ae, E]
        refine ah fun K50 hK50 => ?_
        refine ao hP hN rfl ?_
        (refine ag rfl fun K0 aa => ?_; simp only [zE, op1, ev, lkp, am, ak, ev, reduceCtorEq, J, E, U, Z, V, Y, Tryd.td28, Mpr.av, Int.toNat_natCast]; refine aa _ ?_; clear aa K0; simp only [put, app, af, aj, zE, zS, E])
        refine aq ?_
        refine hK50 _ ?_; clear hK50; refine ai [1, 2, 3, 52, 53, 54] ?_; simp only [ad, lkp, zE, reduceCtorEq, J, ae, E]
        refine aU ?_
        refine ⟨by first | exact .inl rfl | exact .inr rfl, _, rfl, ?_⟩; simp only [fzV, fz1, fzC, List.map_cons, List.map_nil, ad, lkp, zE, reduceCtorEq, J, ae, E, Mpr.av, Int.toNat_natCast]
        refine VLE.of_eq ?_
        refine congrArg (fun n => AV.one (AC.int IntKind.i64 n)) ?_
        unfold cP
        symm
        first
        | (rw [if_pos (by omega)]; done)
        | (rw [if_neg (by omega), if_pos (by omega)]; done)
        | (rw [if_neg (by omega), if_neg (by omega), if_pos (by omega)]; done)
        | (rw [if_neg (by omega), if_neg (by omega), if_neg (by omega), if_pos (by omega)]; done)
        | (rw [if_neg (by omega), if_neg (by omega), if_neg (by omega), if_neg (by omega), if_pos (by omega)]; done)
        | (rw [if_neg (by omega), if_neg (by omega), if_neg (by omega), if_neg (by omega), if_neg (by omega)]
           first
           | (exact bD hrows (by omega) (by assumption))
           | exact (bD hrows (by omega) (by rw [dx hl9]; decide)).trans (dx hl9)
           | exact (bD hrows (by omega) (by rw [dw hl9 (by omega) hb9]; decide)).trans (dw hl9 (by omega) hb9)
           | exact cd fun i hi => hrows i (by omega))
end Go.Proofs.YtceafldjjedhcaaDoor
namespace Go.Proofs.YtceafldjjedhcaaDoor
open Go Go.AV
open Nat renaming reduceEqDiff → J, reduceAdd → E, reduceLeDiff → U, reduceLT → Z, reduceMul → V, reduceSub → Y
open List renaming set_cons_zero → aw, set_cons_succ → au
set_option maxRecDepth 100000 in
set_option maxHeartbeats 2000000 in
theorem w4 (m : Mly) (p : Mpr) : cq Tryd.prog 8 [m.av, p.av] ((mdl m p).av) := by
 refine bt Tryd.func8 rfl (by kernel_rfl) (Nat.le_of_ble_eq_true rfl) rfl fun C hP hN hB => ?_
 replace hN : C.N = 167 := hN
 simp only [ae, E]
 refine ah fun K1 hK1 => ?_
 refine ao hP hN rfl ?_
 iterate 6 (refine ag rfl fun K0 aa => ?_; simp only [zE, op1, ev, lkp, am, ak, dn, ax, cC, reduceCtorEq, J, E, U, Z, V, Y, Tryd.st24, Tryd.st32, Tryd.st36, Tryd.td24, Tryd.td28, Tryd.td32, Tryd.td36, Tryd.td4, Mly.av, Mpr.av, List.length_map]; (repeat refine And.intro (by first | omega | assumption | exact rfl) ?_); (first | refine aa _ ?_ | refine Or.inl (aa _ ?_)); clear aa K0; simp only [put, app, af, aj, zE, zS, E])
 refine aq ?_
 refine hK1 _ ?_; clear hK1; refine ai [0, 1, 2, 3, 4, 5, 6, 7] ?_; simp only [ad, lkp, zE, reduceCtorEq, J, ae, E]
 refine ah fun K2 hK2 => ?_
 refine ao hP hN rfl ?_
 (refine ag rfl fun K0 aa => ?_; simp only [zE, op1, ev, lkp, am, ak, ev, reduceCtorEq, J, E, U, Z, V, Y, Tryd.td57, Mly.av, Mpr.av, List.length_map]; refine aa _ ?_; clear aa K0; simp only [put, app, af, aj, zE, zS, E])
 refine aq ?_
 refine hK2 _ ?_; clear hK2; refine ai [0, 1, 2, 3, 4, 5, 6, 7, 8] ?_; simp only [ad, lkp, zE, reduceCtorEq, J, ae, E]
 refine ah fun K3 hK3 => ?_
 refine ah fun K4 hK4 => ?_
 refine ao hP hN rfl ?_
 (refine ag rfl fun K0 aa => ?_; simp only [zE, op1, ev, lkp, am, ak, aE, Nat.mul_one, aC, aD, acs, Ty.dflt, zG, az, reduceCtorEq, J, E, U, Z, V, Y, Tryd.st24, Tryd.td24, Mly.av, Mpr.av, List.length_map]; (repeat refine And.intro (by first | omega | assumption | exact rfl) ?_); refine aa _ ?_; clear aa K0; simp only [put, app, af, aj, zE, zS, E])
 refine ag rfl fun K0 aa => ?_
 refine aW (h := aF (iF m)) rfl rfl (by first | exact rfl | (simp only [ev, ad, lkp, zE, reduceCtorEq, J, ae, E]; exact rfl)) (by simp only [zE, zG, op1, ev, lkp, am, ak, ax, acs, bf, mv1, mvC, Ty.dflt, reduceCtorEq, J, E, U, Z, V, Y, Mly.av, Mpr.av, List.length_map]) ?_
 refine aa _ ?_; clear aa K0; simp only [put, app, af, aj, zE, zS, E]
 (refine ag rfl fun K0 aa => ?_; simp only [zE, op1, ev, lkp, am, ak, ev, reduceCtorEq, J, E, U, Z, V, Y, Tryd.td28, Mly.av, Mpr.av, List.length_map]; refine aa _ ?_; clear aa K0; simp only [put, app, af, aj, zE, zS, E])
 refine aq ?_
 refine hK4 _ ?_; clear hK4; refine ai [0, 1, 2, 3, 4, 5, 6, 7, 8, 9] ?_; simp only [ad, lkp, zE, reduceCtorEq, J, ae, E]
 refine ah fun K5 hK5 => ?_
 refine ao hP hN rfl ?_
 iterate 2 (refine ag rfl fun K0 aa => ?_; simp only [zE, op1, ev, lkp, am, ak, aJ, aK, aI, ay, aH, aX, reduceCtorEq, J, E, U, Z, V, Y, Tryd.td28, Tryd.td4, Mly.av, Mpr.av, List.length_map]; (repeat refine And.intro (by first | omega | assumption | exact rfl) ?_); refine aa _ ?_; clear aa K0; simp only [put, app, af, aj, zE, zS, E])
 refine aq ?_
 refine hK5 _ ?_; clear hK5; refine ai [0, 1, 2, 3, 4, 5, 6, 7, 8, 9, 25] ?_; simp only [ad, lkp, zE, reduceCtorEq, J, ae, E]
 refine aL (by simp only [ev, ad, lkp, zE, reduceCtorEq, J, ae, E]; exact rfl) (fun hc6 => ?_) (fun hc6 => ?_)
 ·(try simp only [zB, reduceCtorEq] at hc6)
  have e9 := x1 (m := m) (p := p) hc6
  refine ah fun K7 hK7 => ?_
  refine ao hP hN rfl ?_
  iterate 2 (refine ag rfl fun K0 aa => ?_; simp only [zE, op1, ev, lkp, am, ak, ev, reduceCtorEq, J, E, U, Z, V, Y, Tryd.td28, Tryd.td57, Mly.av, Mpr.av, List.length_map]; refine aa _ ?_; clear aa K0; simp only [put, app, af, aj, zE, zS, E])
  refine ag rfl fun K0 aa => ?_
  refine aW (h := aF (gp (bj m))) rfl rfl (by first | exact rfl | (simp only [ev, ad, lkp, zE, reduceCtorEq, J, ae, E]; exact rfl)) (by simp only [zE, zG, op1, ev, lkp, am, ak, ax, acs, bf, mv1, mvC, Ty.dflt, reduceCtorEq, J, E, U, Z, V, Y, Mly.av, Mpr.av, List.length_map]) ?_
  refine aa _ ?_; clear aa K0; simp only [put, app, af, aj, zE, zS, E]
  iterate 8 (refine ag rfl fun K0 aa => ?_; simp only [zE, op1, ev, lkp, am, ak, bS, bJ, Nat.mul_one, ax, aR, aM, acs, Ty.size, Ty.dflt, zG, reduceCtorEq, J, E, U, Z, V, Y, Tryd.st24, Tryd.st36, Tryd.td1, Tryd.td2, Tryd.td24, Tryd.td28, Tryd.td3, Tryd.td36, Tryd.td4, Mly.av, Mpr.av, List.length_map]; (repeat refine And.intro (by first | omega | assumption | exact rfl) ?_); refine aa _ ?_; clear aa K0; simp only [put, app, af, aj, zE, zS, E])
  refine aq ?_
  refine hK7 _ ?_; clear hK7; refine ai [0, 1, 2, 3, 4, 5, 6, 7, 8, 9, 25] ?_; simp only [ad, lkp, zE, reduceCtorEq, J, ae, E]
  refine aU ?_
  refine ⟨by first | exact .inl rfl | exact .inr rfl, _, rfl, ?_⟩; simp only [fzV, fz1, fzC, List.map_cons, List.map_nil, ad, lkp, zE, reduceCtorEq, J, ae, E, Mly.av, Mpr.av, List.length_map]
  rw [e9]
  first
  | exact VLE.of_eq rfl
  | exact br ⟨bq ⟨.refl _, .refl _, aQ rfl, aQ rfl, trivial⟩, bq ⟨aQ rfl, .refl _, .refl _, trivial⟩, aB (.refl _), aB (.refl _), trivial⟩
  | exact br ⟨bq ⟨.refl _, .refl _, aQ rfl, aQ rfl, trivial⟩, bq ⟨.refl _, .refl _, .refl _, trivial⟩, aB (.refl _), aB (.refl _), trivial⟩
  | exact br ⟨bq ⟨.refl _, .refl _, .refl _, .refl _, trivial⟩, bq ⟨aQ rfl, .refl _, .refl _, trivial⟩, aB (.refl _), aB (.refl _), trivial⟩
 ·(try simp only [zB, reduceCtorEq] at hc6)
  have hv1 : bj m = 0 := by omega
  have hm := fX hv1; have hn1 := hm.n1; have hn2 := hm.n2
  refine aT ?_
  refine hK3 _ ?_; clear hK3; refine ai [0, 1, 2, 3, 4, 5, 6, 7, 8, 9, 25] ?_; simp only [ad, lkp, zE, reduceCtorEq, J, ae, E]
  refine ah fun K8 hK8 => ?_
  refine ah fun K9 hK9 => ?_
  refine ao hP hN rfl ?_
  (refine ag rfl fun K0 aa => ?_; simp only [zE, op1, ev, lkp, am, ak, aE, Nat.mul_one, aC, aD, acs, Ty.dflt, zG, az, reduceCtorEq, J, E, U, Z, V, Y, Tryd.st32, Tryd.td32, Mly.av, Mpr.av, List.length_map]; (repeat refine And.intro (by first | omega | assumption | exact rfl) ?_); refine aa _ ?_; clear aa K0; simp only [put, app, af, aj, zE, zS, E])
  refine ag rfl fun K0 aa => ?_
  refine aW (h := aF (tW p)) rfl rfl (by first | exact rfl | (simp only [ev, ad, lkp, zE, reduceCtorEq, J, ae, E]; exact rfl)) (by simp only [zE, zG, op1, ev, lkp, am, ak, ax, acs, bf, mv1, mvC, Ty.dflt, reduceCtorEq, J, E, U, Z, V, Y, Mly.av, Mpr.av, List.length_map]) ?_
  refine aa _ ?_; clear aa K0; simp only [put, app, af, aj, zE, zS, E]
  (refine ag rfl fun K0 aa => ?_; simp only [zE, op1, ev, lkp, am, ak, ev, reduceCtorEq, J, E, U, Z, V, Y, Tryd.td28, Mly.av, Mpr.av, List.length_map]; refine aa _ ?_; clear aa K0; simp only [put, app, af, aj, zE, zS, E])
  refine aq ?_
  refine hK9 _ ?_; clear hK9; refine ai [0, 1, 2, 3, 4, 5, 6, 7, 8, 9, 10, 25] ?_; simp only [ad, lkp, zE, reduceCtorEq, J, ae, E]
  refine ah fun K10 hK10 => ?_
  refine ao hP hN rfl ?_
  iterate 2 (refine ag rfl fun K0 aa => ?_; simp only [zE, op1, ev, lkp, am, ak, aJ, aK, aI, ay, aH, aX, reduceCtorEq, J, E, U, Z, V, Y, Tryd.td28, Tryd.td4, Mly.av, Mpr.av, List.length_map]; (repeat refine And.intro (by first | omega | assumption | exact rfl) ?_); refine aa _ ?_; clear aa K0; simp only [put, app, af, aj, zE, zS, E])
  refine aq ?_
  refine hK10 _ ?_; clear hK10; refine ai [0, 1, 2, 3, 4, 5, 6, 7, 8, 9, 10, 25, 36] ?_; simp only [ad, lkp, zE, reduceCtorEq, J, ae, E]
  refine aL (by simp only [ev, ad, lkp, zE, reduceCtorEq, J, ae, E]; exact rfl) (fun hc11 => ?_) (fun hc11 => ?_)
  ·(try simp only [zB, reduceCtorEq] at hc11)
   have e9 := x4 (m := m) (p := p) hv1 hc11
   refine ah fun K12 hK12 => ?_
   refine ao hP hN rfl ?_
   iterate 2 (refine ag rfl fun K0 aa => ?_; simp only [zE, op1, ev, lkp, am, ak, ev, reduceCtorEq, J, E, U, Z, V, Y, Tryd.td28, Tryd.td57, Mly.av, Mpr.av, List.length_map]; refine aa _ ?_; clear aa K0; simp only [put, app, af, aj, zE, zS, E])
   refine ag rfl fun K0 aa => ?_
   refine aW (h := aF (gp (cP p))) rfl rfl (by first | exact rfl | (simp only [ev, ad, lkp, zE, reduceCtorEq, J, ae, E]; exact rfl)) (by simp only [zE, zG, op1, ev, lkp, am, ak, ax, acs, bf, mv1, mvC, Ty.dflt, reduceCtorEq, J, E, U, Z, V, Y, Mly.av, Mpr.av, List.length_map]) ?_
   refine aa _ ?_; clear aa K0; simp only [put, app, af, aj, zE, zS, E]
   iterate 8 (refine ag rfl fun K0 aa => ?_; simp only [zE, op1, ev, lkp, am, ak, bS, bJ, Nat.mul_one, ax, aR, aM, acs, Ty.size, Ty.dflt, zG, reduceCtorEq, J, E, U, Z, V, Y, Tryd.st24, Tryd.st36, Tryd.td1, Tryd.td2, Tryd.td24, Tryd.td28, Tryd.td3, Tryd.td36, Tryd.td4, Mly.av, Mpr.av, List.length_map]; (repeat refine And.intro (by first | omega | assumption | exact rfl) ?_); refine aa _ ?_; clear aa K0; simp only [put, app, af, aj, zE, zS, E])
   refine aq ?_
   refine hK12 _ ?_; clear hK12; refine ai [0, 1, 2, 3, 4, 5, 6, 7, 8, 9, 10, 25, 36] ?_; simp only [ad, lkp, zE, reduceCtorEq, J, ae, E]
   refine aU ?_
   refine ⟨by first | exact .inl rfl | exact .inr rfl, _, rfl, ?_⟩; simp only [fzV, fz1, fzC, List.map_cons, List.map_nil, ad, lkp, zE, reduceCtorEq, J, ae, E, Mly.av, Mpr.av, List.length_map]
   rw [e9]
   first
   | exact VLE.of_eq rfl
   | exact br ⟨bq ⟨.refl _, .refl _, aQ rfl, aQ rfl, trivial⟩, bq ⟨aQ rfl, .refl _, .refl _, trivial⟩, aB (.refl _), aB (.refl _), trivial⟩
   | exact br ⟨bq ⟨.refl _, .refl _, aQ rfl, aQ rfl, trivial⟩, bq ⟨.refl _, .refl _, .refl _, trivial⟩, aB (.refl _), aB (.refl _), trivial⟩
   | exact br ⟨bq ⟨.refl _, .refl _, .refl _, .refl _, trivial⟩, bq ⟨aQ rfl, .refl _, .refl _, trivial⟩, aB (.refl _), aB (.refl _), trivial⟩
  ·(try simp only [zB, reduceCtorEq] at hc11)
   have hv2 : cP p = 0 := by omega
   have hp := pq hv2; have pi1 := hp.i1; have pi2 := hp.i2; have pb1 := hp.b1; have pb2 := hp.b2; have pn1 := hp.n1; have pn2 := hp.n2; have psl := hp.sl
   refine aT ?_
   refine hK8 _ ?_; clear hK8; refine ai [0, 1, 2, 3, 4, 5, 6, 7, 8, 9, 10, 25, 36] ?_; simp only [ad, lkp, zE, reduceCtorEq, J, ae, E]
   refine ah fun K13 hK13 => ?_
   refine ah fun K14 hK14 => ?_
   refine ao hP hN rfl ?_
   iterate 5 (refine ag rfl fun K0 aa => ?_; simp only [zE, op1, ev, lkp, am, ak, aA, aE, Nat.mul_one, aC, aD, acs, Ty.dflt, zG, az, aJ, aK, aI, ay, aH, aX, reduceCtorEq, J, E, U, Z, V, Y, Tryd.st24, Tryd.st32, Tryd.td24, Tryd.td3, Tryd.td32, Tryd.td4, Mly.av, Mpr.av, List.length_map]; (repeat refine And.intro (by first | omega | assumption | exact rfl) ?_); refine aa _ ?_; clear aa K0; simp only [put, app, af, aj, zE, zS, E])
   refine aq ?_
   refine hK14 _ ?_; clear hK14; refine ai [0, 1, 2, 3, 4, 5, 6, 7, 8, 9, 10, 25, 36, 48] ?_; simp only [ad, lkp, zE, reduceCtorEq, J, ae, E]
   refine aL (by simp only [ev, ad, lkp, zE, reduceCtorEq, J, ae, E]; exact rfl) (fun hc15 => ?_) (fun hc15 => ?_)
   ·(try simp only [zB, reduceCtorEq] at hc15)
    have e9 := x9 hv1 hv2 hc15
    refine ah fun K16 hK16 => ?_
    refine ao hP hN rfl ?_
    (refine ag rfl fun K0 aa => ?_; simp only [zE, op1, ev, lkp, am, ak, ev, reduceCtorEq, J, E, U, Z, V, Y, Tryd.td57, Mly.av, Mpr.av, List.length_map]; refine aa _ ?_; clear aa K0; simp only [put, app, af, aj, zE, zS, E])
    refine ag rfl fun K0 aa => ?_
    refine aW (h := aF (gp 15)) rfl rfl (by first | exact rfl | (simp only [ev, ad, lkp, zE, reduceCtorEq, J, ae, E]; exact rfl)) (by simp only [zE, zG, op1, ev, lkp, am, ak, ax, acs, bf, mv1, mvC, Ty.dflt, reduceCtorEq, J, E, U, Z, V, Y, Mly.av, Mpr.av, List.length_map]) ?_
    refine aa _ ?_; clear aa K0; simp only [put, app, af, aj, zE, zS, E]
    iterate 8 (refine ag rfl fun K0 aa => ?_; simp only [zE, op1, ev, lkp, am, ak, bS, bJ, Nat.mul_one, ax, aR, aM, acs, Ty.size, Ty.dflt, zG, reduceCtorEq, J, E, U, Z, V, Y, Tryd.st24, Tryd.st36, Tryd.td1, Tryd.td2, Tryd.td24, Tryd.td28, Tryd.td3, Tryd.td36, Tryd.td4, Mly.av, Mpr.av, List.length_map]; (repeat refine And.intro (by first | omega | assumption | exact rfl) ?_); refine aa _ ?_; clear aa K0; simp only [put, app, af, aj, zE, zS, E])
    refine aq ?_
    refine hK16 _ ?_; clear hK16; refine ai [0, 1, 2, 3, 4, 5, 6, 7, 8, 9, 10, 25, 36, 48] ?_; simp only [ad, lkp, zE, reduceCtorEq, J, ae, E]
    refine aU ?_
    refine ⟨by first | exact .inl rfl | exact .inr rfl, _, rfl, ?_⟩; simp only [fzV, fz1, fzC, List.map_cons, List.map_nil, ad, lkp, zE, reduceCtorEq, J, ae, E, Mly.av, Mpr.av, List.length_map]
    rw [e9]
    first
    | exact VLE.of_eq rfl
    | exact br ⟨bq ⟨.refl _, .refl _, aQ rfl, aQ rfl, trivial⟩, bq ⟨aQ rfl, .refl _, .refl _, trivial⟩, aB (.refl _), aB (.refl _), trivial⟩
    | exact br ⟨bq ⟨.refl _, .refl _, aQ rfl, aQ rfl, trivial⟩, bq ⟨.refl _, .refl _, .refl _, trivial⟩, aB (.refl _), aB (.refl _), trivial⟩
    | exact br ⟨bq ⟨.refl _, .refl _, .refl _, .refl _, trivial⟩, bq ⟨aQ rfl, .refl _, .refl _, trivial⟩, aB (.refl _), aB (.refl _), trivial⟩
   ·(try simp only [zB, reduceCtorEq] at hc15)
    have hi : m.inp = p.inp := by omega
    have hst := w9 hm hp; have hs0 := (kg hm hp).rng _ (List.mem_singleton.2 rfl); have h88 : (p.nx.length : Int) * m.nx.length ≤ 128 * 128 := Int.mul_le_mul (by omega) (by omega) (by omega) (by omega)
    refine aT ?_
    refine hK13 _ ?_; clear hK13; refine ai [0, 1, 2, 3, 4, 5, 6, 7, 8, 9, 10, 25, 36, 48] ?_; simp only [ad, lkp, zE, reduceCtorEq, J, ae, E]
    refine ah fun K17 hK17 => ?_
    refine ao hP hN rfl ?_
    iterate 6 (refine ag rfl fun K0 aa => ?_; simp only [zE, op1, ev, lkp, am, ak, aE, Nat.mul_one, aC, aD, acs, Ty.dflt, zG, az, gO, cF, bl, aR, ax, cC, bJ, aM, Ty.size, reduceCtorEq, J, E, U, Z, V, Y, Tryd.mk60, Tryd.st24, Tryd.st32, Tryd.st63, Tryd.td24, Tryd.td32, Tryd.td63, Mly.av, Mpr.av, List.length_map]; (repeat refine And.intro (by first | omega | assumption | exact rfl) ?_); (first | refine aa _ ?_ | refine Or.inl (aa _ ?_)); clear aa K0; simp only [put, app, af, aj, zE, zS, E])
    refine aq ?_
    refine hK17 _ ?_; clear hK17; refine ai [0, 1, 2, 3, 4, 5, 6, 7, 8, 9, 10, 11, 25, 36, 48] ?_; simp only [ad, lkp, zE, reduceCtorEq, J, ae, E]
    refine ah fun K18 hK18 => ?_
    refine gh 5 9 (.pair (.list (.int .i64)) (.pair (.list (.int .i64)) .unit)) 67 (by decide) rfl rfl ?_; simp only [zS, List.length_cons, List.length_nil, List.cons_append, List.nil_append, Nat.zero_add, E]
    refine ao hP hN rfl ?_
    iterate 10 (refine ag rfl fun K0 aa => ?_; simp only [zE, op1, ev, lkp, am, ak, aA, aE, Nat.mul_one, aC, aD, acs, Ty.dflt, zG, az, aP, bT, bC, bu, bv, bP, Nat.div_one, aV, bz, Ty.size, aM, dite_true, aJ, aK, aI, ay, aH, aX, b0, bl, c8, rep, aR, ax, reduceCtorEq, J, E, U, Z, V, Y, Tryd.el22, Tryd.el25, Tryd.st24, Tryd.st32, Tryd.td1, Tryd.td2, Tryd.td22, Tryd.td24, Tryd.td25, Tryd.td3, Tryd.td32, Mly.av, Mpr.av, List.length_map]; (repeat refine And.intro (by first | omega | assumption | exact rfl) ?_); (first | refine aa _ ?_ | refine Or.inl (aa _ ?_)); clear aa K0; simp only [put, app, af, aj, zE, zS, E])
    refine ag rfl fun K0 aa => ?_
    refine aW (h := vv m p [] [p.st * (m.nx.length : Int) + m.st] (fun s hs => by cases hs) ((kg hm hp).kb hm hp) (by simp) (by simp) _ _ _ _) rfl rfl (by first | exact rfl | (simp only [ev, ad, lkp, zE, reduceCtorEq, J, ae, E]; exact rfl)) (by simp only [zE, zG, op1, ev, lkp, am, ak, ax, acs, bf, mv1, mvC, Ty.dflt, reduceCtorEq, J, E, U, Z, V, Y, Mly.av, Mpr.av, List.length_map]) ?_
    refine aa _ ?_; clear aa K0; simp only [put, app, af, aj, zE, zS, E]
    refine aq ?_
    refine hK18 _ ?_; clear hK18; refine ai [0, 1, 2, 3, 4, 5, 6, 7, 8, 9, 10, 11, 25, 36, 48] ?_; simp only [ad, lkp, zE, reduceCtorEq, J, ae, E]
    refine ah fun K19 hK19 => ?_
    refine ao hP hN rfl ?_
    iterate 5 (refine ag rfl fun K0 aa => ?_; simp only [zE, op1, ev, lkp, am, ak, aA, aE, Nat.mul_one, aC, aD, acs, Ty.dflt, zG, az, cF, bl, aR, ax, cC, bJ, aM, Ty.size, reduceCtorEq, J, E, U, Z, V, Y, Tryd.st24, Tryd.st32, Tryd.td1, Tryd.td24, Tryd.td3, Tryd.td32, Mly.av, Mpr.av, List.length_map]; (repeat refine And.intro (by first | omega | assumption | exact rfl) ?_); (first | refine aa _ ?_ | refine Or.inl (aa _ ?_)); clear aa K0; simp only [put, app, af, aj, zE, zS, E])
    refine aq ?_
    refine hK19 _ ?_; clear hK19; refine ai [0, 1, 2, 3, 4, 5, 6, 7, 8, 9, 10, 11, 12, 25, 36, 48] ?_; simp only [ad, lkp, zE, reduceCtorEq, J, ae, E]
    refine ah fun K20 hK20 => ?_
    refine ah fun K21 hK21 => ?_
    refine ao hP hN rfl ?_
    (refine ag rfl fun K0 aa => ?_; simp only [zE, op1, ev, lkp, am, ak, ev, reduceCtorEq, J, E, U, Z, V, Y, Tryd.td3, Mly.av, Mpr.av, List.length_map]; refine aa _ ?_; clear aa K0; simp only [put, app, af, aj, zE, zS, E])
    refine aq ?_
    refine hK21 _ ?_; clear hK21; refine ai [0, 1, 2, 3, 4, 5, 6, 7, 8, 9, 10, 11, 12, 13, 25, 36, 48] ?_; simp only [ad, lkp, zE, reduceCtorEq, J, ae, E]
    refine b8 ?_
    refine gh 7 2 (.list (.int .i64)) 25 (by decide) rfl rfl ?_; simp only [zS, List.length_cons, List.length_nil, List.cons_append, List.nil_append, Nat.zero_add, E]
    refine gh 7 3 (.list (.int .i64)) 25 (by decide) rfl rfl ?_; simp only [zS, List.length_cons, List.length_nil, List.cons_append, List.nil_append, Nat.zero_add, E]
    refine cj (fun n22 s22 => ∃ (k : Nat) (u : Nat), (RIM m p k) ∧ n22 = 129 - k ∧ s22 = { env := [(3, .one (.ptr 1 0 0 0)), (4, .one (.ptr 2 0 0 0)), (5, .one (.ptr 3 0 0 0)), (6, .one (.bool false)), (7, .one (.int .i64 0)), (8, .one (.fn 19 [])), (11, .one (.ptr 5 0 0 0)), (12, .one (.ptr 7 0 0 0)), (13, .one (.int .i64 (k : Int)))], L := [.vars 24 [.int .i64 m.inp, .int .i64 m.st, .list (.list (.int .i64)) m.nx, .list (.list (.int .i64)) m.ot], .vars 32 [.int .i64 p.inp, .int .i64 p.ab, .int .i64 p.st, .list (.list (.int .i64)) p.nx, .list (.list (.int .i64)) p.sy], .vars 24 [.int .i64 0, .int .i64 0, .nils, .nils], .vars 36 [.nils, .int .i64 0, .int .i64 0], .mp 60 .int (esS (bG m p k).S), .vars 63 [.int .i64 m.inp, .int .i64 m.st, .list (.list (.int .i64)) m.nx, .list (.list (.int .i64)) m.ot, .int .i64 p.inp, .int .i64 p.ab, .int .i64 p.st, .list (.list (.int .i64)) p.nx, .list (.list (.int .i64)) p.sy, .row 6 (bG m p k).S.length, .mpv 4], .row (.pair (.list (.int .i64)) (.pair (.list (.int .i64)) .unit)) 67 (bG m p k).S.length (List.map eQ (bG m p k).S), .vars 24 [.int .i64 p.ab, .int .i64 0, .row 8 u, .row 9 u], .row (.list (.int .i64)) 25 u (bG m p k).N, .row (.list (.int .i64)) 25 u (bG m p k).O] }) ?_ ?_
    ·exact ⟨_, _, aY [3, 4, 5, 6, 7, 8, 11, 12, 13], 0, 0, fun j hj => by omega, rfl, rfl⟩
    ·rintro n22 s22 ⟨k, u, hR, rfl, rfl⟩
     refine ah fun K23 hK23 => ?_
     refine ah fun K24 hK24 => ?_
     refine ao hP hN rfl ?_
     iterate 5 (refine ag rfl fun K0 aa => ?_; simp only [zE, op1, ev, lkp, am, ak, aA, aE, Nat.mul_one, aC, aD, acs, Ty.dflt, zG, az, aP, bT, bC, bu, bv, bP, Nat.div_one, aV, bz, Ty.size, aM, dite_true, aJ, aK, aI, ay, aH, aX, reduceCtorEq, J, E, U, Z, V, Y, Tryd.el61, Tryd.st63, Tryd.td2, Tryd.td3, Tryd.td4, Tryd.td61, Tryd.td63, Mly.av, Mpr.av, List.length_map]; (repeat refine And.intro (by first | omega | assumption | exact rfl) ?_); (first | refine aa _ ?_ | refine Or.inl (aa _ ?_)); clear aa K0; simp only [put, app, af, aj, zE, zS, E])
     refine aq ?_
     refine hK24 _ ?_; clear hK24; refine ai [3, 4, 5, 6, 7, 8, 11, 12, 13, 77] ?_; simp only [ad, lkp, zE, reduceCtorEq, J, ae, E]
     refine aL (by simp only [ev, ad, lkp, zE, reduceCtorEq, J, ae, E]; exact rfl) (fun hc25 => ?_) (fun hc25 => ?_)
     ·(try simp only [zB, reduceCtorEq] at hc25)
      refine aT ?_
      refine hK23 _ ?_; clear hK23; refine ai [3, 4, 5, 6, 7, 8, 11, 12, 13, 77] ?_; simp only [ad, lkp, zE, reduceCtorEq, J, ae, E]
      refine ah fun K26 hK26 => ?_
      refine b8 ?_
      refine ah fun K27 hK27 => ?_
      refine ao hP hN rfl ?_
      iterate 2 (refine ag rfl fun K0 aa => ?_; simp only [zE, op1, ev, lkp, am, ak, ev, reduceCtorEq, J, E, U, Z, V, Y, Tryd.el25, Tryd.td25, Mly.av, Mpr.av, List.length_map]; refine aa _ ?_; clear aa K0; simp only [put, app, af, aj, zE, zS, E])
      refine aq ?_
      refine hK27 _ ?_; clear hK27; refine ai [3, 4, 5, 6, 7, 8, 11, 12, 13, 14, 15, 77] ?_; simp only [ad, lkp, zE, reduceCtorEq, J, ae, E]
      refine ah fun K28 hK28 => ?_
      refine ah fun K29 hK29 => ?_
      refine ao hP hN rfl ?_
      iterate 3 (refine ag rfl fun K0 aa => ?_; simp only [zE, op1, ev, lkp, am, ak, aA, aE, Nat.mul_one, aC, aD, acs, Ty.dflt, zG, az, reduceCtorEq, J, E, U, Z, V, Y, Tryd.st32, Tryd.td1, Tryd.td3, Tryd.td32, Mly.av, Mpr.av, List.length_map]; (repeat refine And.intro (by first | omega | assumption | exact rfl) ?_); refine aa _ ?_; clear aa K0; simp only [put, app, af, aj, zE, zS, E])
      refine aq ?_
      refine hK29 _ ?_; clear hK29; refine ai [3, 4, 5, 6, 7, 8, 11, 12, 13, 14, 15, 77, 81, 82] ?_; simp only [ad, lkp, zE, reduceCtorEq, J, ae, E]
      refine b8 ?_
      refine eP 14 (.int .i64) 3 (by decide) rfl ?_; simp only [List.length_cons, List.length_nil, List.cons_append, List.nil_append, Nat.zero_add, E]
      refine eP 15 (.int .i64) 3 (by decide) rfl ?_; simp only [List.length_cons, List.length_nil, List.cons_append, List.nil_append, Nat.zero_add, E]
      have hkl : k < (bG m p k).S.length := by omega
      refine cj (fun n30 s30 => ∃ (a : Nat) (r : Nat), ((a : Int) ≤ p.ab) ∧ (∀ b, b < a → cX m p k (bW m p k b) b = none) ∧ n30 = p.ab.toNat - a ∧ s30 = { env := [(3, .one (.ptr 1 0 0 0)), (4, .one (.ptr 2 0 0 0)), (5, .one (.ptr 3 0 0 0)), (6, .one (.bool false)), (7, .one (.int .i64 0)), (8, .one (.fn 19 [])), (11, .one (.ptr 5 0 0 0)), (12, .one (.ptr 7 0 0 0)), (13, .one (.int .i64 (k : Int))), (14, .one (.row 10 r)), (15, .one (.row 11 r)), (81, .one (.int .i64 p.ab)), (82, .one (.int .i64 (a : Int)))], L := [.vars 24 [.int .i64 m.inp, .int .i64 m.st, .list (.list (.int .i64)) m.nx, .list (.list (.int .i64)) m.ot], .vars 32 [.int .i64 p.inp, .int .i64 p.ab, .int .i64 p.st, .list (.list (.int .i64)) p.nx, .list (.list (.int .i64)) p.sy], .vars 24 [.int .i64 0, .int .i64 0, .nils, .nils], .vars 36 [.nils, .int .i64 0, .int .i64 0], .mp 60 .int (esS (bW m p k a).S), .vars 63 [.int .i64 m.inp, .int .i64 m.st, .list (.list (.int .i64)) m.nx, .list (.list (.int .i64)) m.ot, .int .i64 p.inp, .int .i64 p.ab, .int .i64 p.st, .list (.list (.int .i64)) p.nx, .list (.list (.int .i64)) p.sy, .row 6 (bW m p k a).S.length, .mpv 4], .row (.pair (.list (.int .i64)) (.pair (.list (.int .i64)) .unit)) 67 (bW m p k a).S.length (List.map eQ (bW m p k a).S), .vars 24 [.int .i64 p.ab, .int .i64 0, .row 8 u, .row 9 u], .row (.list (.int .i64)) 25 u (bG m p k).N, .row (.list (.int .i64)) 25 u (bG m p k).O, .row (.int .i64) 3 r (bW m p k a).nr, .row (.int .i64) 3 r (bW m p k a).os] }) ?_ ?_
      ·refine ⟨_, _, aY [3, 4, 5, 6, 7, 8, 11, 12, 13, 14, 15, 81, 82], 0, 0, by omega, fun b hb => by omega, rfl, ?_⟩
       rw [rE, (eL m p k).1, (eL m p k).2.1]; rfl
      ·rintro n30 s30 ⟨a, r, ha, hF, rfl, rfl⟩
       refine ah fun K31 hK31 => ?_
       refine ao hP hN rfl ?_
       (refine ag rfl fun K0 aa => ?_; simp only [zE, op1, ev, lkp, am, ak, aJ, aK, aI, ay, aH, aX, reduceCtorEq, J, E, U, Z, V, Y, Tryd.td3, Tryd.td4, Mly.av, Mpr.av, List.length_map]; (repeat refine And.intro (by first | omega | assumption | exact rfl) ?_); refine aa _ ?_; clear aa K0; simp only [put, app, af, aj, zE, zS, E])
       refine aq ?_
       refine hK31 _ ?_; clear hK31; refine ai [3, 4, 5, 6, 7, 8, 11, 12, 13, 14, 15, 81, 82, 83] ?_; simp only [ad, lkp, zE, reduceCtorEq, J, ae, E]
       refine ah fun K32 hK32 => ?_
       refine aL (by simp only [ev, ad, lkp, zE, reduceCtorEq, J, ae, E]; exact rfl) (fun hc33 => ?_) (fun hc33 => ?_)
       ·(try simp only [zB, reduceCtorEq] at hc33)
        refine aT ?_
        refine hK32 _ ?_; clear hK32; refine ai [3, 4, 5, 6, 7, 8, 11, 12, 13, 14, 15, 81, 82, 83] ?_; simp only [ad, lkp, zE, reduceCtorEq, J, ae, E]
        refine ah fun K34 hK34 => ?_
        refine b8 ?_
        refine ah fun K35 hK35 => ?_
        refine ao hP hN rfl ?_
        iterate 2 (refine ag rfl fun K0 aa => ?_; simp only [zE, op1, ev, lkp, am, ak, ev, reduceCtorEq, J, E, U, Z, V, Y, Tryd.td3, Mly.av, Mpr.av, List.length_map]; refine aa _ ?_; clear aa K0; simp only [put, app, af, aj, zE, zS, E])
        refine aq ?_
        refine hK35 _ ?_; clear hK35; refine ai [3, 4, 5, 6, 7, 8, 11, 12, 13, 14, 15, 16, 81, 82, 83] ?_; simp only [ad, lkp, zE, reduceCtorEq, J, ae, E]
        refine ah fun K36 hK36 => ?_
        have hSR := f9 hm hp hi hR; obtain ⟨hSI, hgg⟩ := ia hm hp hi hSR hkl a; have hge := fl (m := m) (p := p) (i := k) a; have hsl := hSI.le; obtain ⟨hsb, hwl⟩ := hSI.at_ (i := k) (by omega); have hwk := (hSR.at_ hkl).2; rw [← hgg] at hwk
        have hgi : ∀ d, (List.map eQ (bW m p k a).S).getD k d = (((bW m p k a).S.getD k ss0).1, (((bW m p k a).S.getD k ss0).2, ())) := fun d => wa (by omega) d
        have hkL : k < (bW m p k a).S.length := by omega
        refine ao hP hN rfl ?_
        iterate 9 (refine ag rfl fun K0 aa => ?_; simp only [zE, op1, ev, lkp, am, ak, aA, aE, Nat.mul_one, aC, aD, acs, Ty.dflt, zG, az, aS, Ty.size, ne_eq, not_false_eq_true, Int.natCast_one, Int.mul_one, b0, bl, c8, rep, aM, aR, ax, reduceCtorEq, J, E, U, Z, V, Y, Tryd.el22, Tryd.el25, Tryd.el61, Tryd.st63, Tryd.st67, Tryd.td1, Tryd.td2, Tryd.td22, Tryd.td25, Tryd.td3, Tryd.td61, Tryd.td63, Tryd.td67, Mly.av, Mpr.av, List.length_map, hgi, List.flatten_cons, List.flatten_nil, List.append_nil]; (repeat refine And.intro (by first | omega | assumption | exact rfl) ?_); (first | refine aa _ ?_ | refine Or.inl (aa _ ?_)); clear aa K0; simp only [put, app, af, aj, zE, zS, E, hgi, List.flatten_cons, List.flatten_nil, List.append_nil])
        refine ag rfl fun K0 aa => ?_
        refine aW (h := aF (fk [((bW m p k a).S.getD k ss0).2, [(a : Int)]] (by rw [eW]; omega))) rfl rfl (by first | exact rfl | (simp only [ev, ad, lkp, zE, reduceCtorEq, J, ae, E]; exact rfl)) (by simp only [zE, zG, op1, ev, lkp, am, ak, ax, acs, bf, mv1, mvC, Ty.dflt, reduceCtorEq, J, E, U, Z, V, Y, Mly.av, Mpr.av, List.length_map, hgi, List.flatten_cons, List.flatten_nil, List.append_nil]) ?_
        refine aa _ ?_; clear aa K0; simp only [put, app, af, aj, zE, zS, E, hgi, List.flatten_cons, List.flatten_nil, List.append_nil]
        (refine ag rfl fun K0 aa => ?_; simp only [zE, op1, ev, lkp, am, ak, ev, reduceCtorEq, J, E, U, Z, V, Y, Tryd.el25, Tryd.td25, Mly.av, Mpr.av, List.length_map, hgi, List.flatten_cons, List.flatten_nil, List.append_nil]; refine aa _ ?_; clear aa K0; simp only [put, app, af, aj, zE, zS, E, hgi, List.flatten_cons, List.flatten_nil, List.append_nil])
        refine aq ?_
        refine hK36 _ ?_; clear hK36; refine ai [3, 4, 5, 6, 7, 8, 11, 12, 13, 14, 15, 16, 17, 81, 82, 83] ?_; simp only [ad, lkp, zE, reduceCtorEq, J, ae, E]
        refine ah fun K37 hK37 => ?_
        refine ao hP hN rfl ?_
        iterate 7 (refine ag rfl fun K0 aa => ?_; simp only [zE, op1, ev, lkp, am, ak, aA, aE, Nat.mul_one, aC, aD, acs, Ty.dflt, zG, az, aS, Ty.size, ne_eq, not_false_eq_true, Int.natCast_one, Int.mul_one, reduceCtorEq, J, E, U, Z, V, Y, Tryd.el25, Tryd.el61, Tryd.st63, Tryd.st67, Tryd.td2, Tryd.td25, Tryd.td3, Tryd.td61, Tryd.td63, Tryd.td67, Mly.av, Mpr.av, List.length_map, hgi]; (repeat refine And.intro (by first | omega | assumption | exact rfl) ?_); refine aa _ ?_; clear aa K0; simp only [put, app, af, aj, zE, zS, E])
        refine ag rfl fun K0 aa => ?_
        refine aW (h := uq m p (cxM (bW m p k a) k) (a : Int) hm hp hi hsb (bW m p k a).S u (bG m p k).N (bG m p k).O r (bW m p k a).nr (bW m p k a).os) rfl rfl (by first | exact rfl | (simp only [ev, ad, lkp, zE, reduceCtorEq, J, ae, E]; exact rfl)) (by simp only [zE, zG, op1, ev, lkp, am, ak, ax, acs, bf, mv1, mvC, Ty.dflt, reduceCtorEq, J, E, U, Z, V, Y, Mly.av, Mpr.av, List.length_map, hgi, cxM]) ?_
        refine aa _ ?_; clear aa K0; simp only [put, app, af, aj, zE, zS, E]
        iterate 5 (refine ag rfl fun K0 aa => ?_; simp only [zE, op1, ev, lkp, am, ak, bS, reduceCtorEq, J, E, U, Z, V, Y, Tryd.el25, Tryd.td1, Tryd.td25, Mly.av, Mpr.av, List.length_map, hgi]; refine aa _ ?_; clear aa K0; simp only [put, app, af, aj, zE, zS, E])
        refine aq ?_
        refine hK37 _ ?_; clear hK37; refine ai [3, 4, 5, 6, 7, 8, 11, 12, 13, 14, 15, 16, 17, 18, 19, 81, 82, 83] ?_; simp only [ad, lkp, zE, reduceCtorEq, J, ae, E]
        refine ah fun K38 hK38 => ?_
        refine ah fun K39 hK39 => ?_
        have hap : 0 < (aO m p (cxM (bW m p k a) k) (a : Int)).length := tq hp hsb.pos _; have hsn : SB m p (aN m p (cxM (bW m p k a) k) (a : Int)) := vY hsb hm hp hi _; have hsnl := hsn.len hm hp
        refine ao hP hN rfl ?_
        iterate 3 (refine ag rfl fun K0 aa => ?_; simp only [zE, op1, ev, lkp, am, ak, aP, bT, bC, bu, bv, bP, Nat.div_one, aV, bz, Ty.size, aM, dite_true, aJ, aK, aI, ay, aH, aX, reduceCtorEq, J, E, U, Z, V, Y, Tryd.el25, Tryd.td25, Tryd.td3, Tryd.td4, Mly.av, Mpr.av, List.length_map]; (repeat refine And.intro (by first | omega | assumption | exact rfl) ?_); (first | refine aa _ ?_ | refine Or.inl (aa _ ?_)); clear aa K0; simp only [put, app, af, aj, zE, zS, E])
        refine aq ?_
        refine hK39 _ ?_; clear hK39; refine ai [3, 4, 5, 6, 7, 8, 11, 12, 13, 14, 15, 16, 17, 18, 19, 81, 82, 83, 108] ?_; simp only [ad, lkp, zE, reduceCtorEq, J, ae, E]
        refine aL (by simp only [ev, ad, lkp, zE, reduceCtorEq, J, ae, E]; exact rfl) (fun hc40 => ?_) (fun hc40 => ?_)
        ·(try simp only [zB, reduceCtorEq] at hc40)
         have e9 := (lJ hv1 hv2 hi).trans (kh (iO hm hp hi hR) hR hkl (by omega) hF (wA (by omega)))
         refine ah fun K41 hK41 => ?_
         refine cB hP hN Tryd.mixed rfl ?_
         iterate 13 (refine ag rfl fun K0 aa => ?_; simp only [zE, op1, ev, lkp, am, ak, cF, bl, aR, ax, aS, zG, Ty.dflt, Ty.size, Nat.mul_one, ne_eq, not_false_eq_true, Int.natCast_one, Int.mul_one, aE, aC, aD, acs, az, bJ, aM, reduceCtorEq, J, E, U, Z, V, Y, Tryd.el25, Tryd.st24, Tryd.st36, Tryd.td24, Tryd.td25, Tryd.td28, Tryd.td3, Tryd.td36, Tryd.td4, Mly.av, Mpr.av, List.length_map]; (repeat refine And.intro (by first | omega | assumption | exact rfl) ?_); (first | refine aa _ ?_ | refine Or.inl (aa _ ?_)); clear aa K0; simp only [put, app, af, aj, zE, zS, E])
         refine aq ?_
         refine ⟨by kernel_rfl, ?_⟩
         refine hK41 _ ?_; clear hK41; refine ai [3, 4, 5, 6, 7, 8, 11, 12, 13, 14, 15, 16, 17, 18, 19, 81, 82, 83, 108] ?_; simp only [ad, lkp, zE, reduceCtorEq, J, ae, E]
         refine aU ?_
         refine ⟨by first | exact .inl rfl | exact .inr rfl, _, rfl, ?_⟩; simp only [fzV, fz1, fzC, List.map_cons, List.map_nil, ad, lkp, zE, reduceCtorEq, J, ae, E, Mly.av, Mpr.av, List.length_map]
         rw [e9]
         first
         | exact VLE.of_eq rfl
         | exact br ⟨bq ⟨.refl _, .refl _, aQ rfl, aQ rfl, trivial⟩, bq ⟨aQ rfl, .refl _, .refl _, trivial⟩, aB (.refl _), aB (.refl _), trivial⟩
         | exact br ⟨bq ⟨.refl _, .refl _, aQ rfl, aQ rfl, trivial⟩, bq ⟨.refl _, .refl _, .refl _, trivial⟩, aB (.refl _), aB (.refl _), trivial⟩
         | exact br ⟨bq ⟨.refl _, .refl _, .refl _, .refl _, trivial⟩, bq ⟨aQ rfl, .refl _, .refl _, trivial⟩, aB (.refl _), aB (.refl _), trivial⟩
        ·(try simp only [zB, reduceCtorEq] at hc40)
         have ho1 : ¬ 1 < (aO m p (cxM (bW m p k a) k) (a : Int)).length := by omega
         refine aT ?_
         refine hK38 _ ?_; clear hK38; refine ai [3, 4, 5, 6, 7, 8, 11, 12, 13, 14, 15, 16, 17, 18, 19, 81, 82, 83, 108] ?_; simp only [ad, lkp, zE, reduceCtorEq, J, ae, E]
         refine ah fun K42 hK42 => ?_
         refine ah fun K43 hK43 => ?_
         refine ao hP hN rfl ?_
         iterate 4 (refine ag rfl fun K0 aa => ?_; simp only [zE, op1, ev, lkp, am, ak, aS, zG, Ty.dflt, Ty.size, Nat.mul_one, ne_eq, not_false_eq_true, Int.natCast_one, Int.mul_one, aE, aC, aD, acs, az, aJ, aK, aI, ay, aH, aX, reduceCtorEq, J, E, U, Z, V, Y, Tryd.el25, Tryd.td25, Tryd.td3, Tryd.td4, Mly.av, Mpr.av, List.length_map]; (repeat refine And.intro (by first | omega | assumption | exact rfl) ?_); refine aa _ ?_; clear aa K0; simp only [put, app, af, aj, zE, zS, E])
         refine aq ?_
         refine hK43 _ ?_; clear hK43; refine ai [3, 4, 5, 6, 7, 8, 11, 12, 13, 14, 15, 16, 17, 18, 19, 81, 82, 83, 108, 121] ?_; simp only [ad, lkp, zE, reduceCtorEq, J, ae, E]
         refine aL (by simp only [ev, ad, lkp, zE, reduceCtorEq, J, ae, E]; exact rfl) (fun hc44 => ?_) (fun hc44 => ?_)
         ·(try simp only [zB, reduceCtorEq] at hc44)
          have e9 := (lJ hv1 hv2 hi).trans (kh (iO hm hp hi hR) hR hkl (by omega) hF (w8 ho1 hc44))
          refine ah fun K45 hK45 => ?_
          refine ao hP hN rfl ?_
          (refine ag rfl fun K0 aa => ?_; simp only [zE, op1, ev, lkp, am, ak, ev, reduceCtorEq, J, E, U, Z, V, Y, Tryd.td57, Mly.av, Mpr.av, List.length_map]; refine aa _ ?_; clear aa K0; simp only [put, app, af, aj, zE, zS, E])
          refine ag rfl fun K0 aa => ?_
          refine aW (h := aF (gp 2)) rfl rfl (by first | exact rfl | (simp only [ev, ad, lkp, zE, reduceCtorEq, J, ae, E]; exact rfl)) (by simp only [zE, zG, op1, ev, lkp, am, ak, ax, acs, bf, mv1, mvC, Ty.dflt, reduceCtorEq, J, E, U, Z, V, Y, Mly.av, Mpr.av, List.length_map]) ?_
          refine aa _ ?_; clear aa K0; simp only [put, app, af, aj, zE, zS, E]
          iterate 8 (refine ag rfl fun K0 aa => ?_; simp only [zE, op1, ev, lkp, am, ak, bS, bJ, Nat.mul_one, ax, aR, aM, acs, Ty.size, Ty.dflt, zG, reduceCtorEq, J, E, U, Z, V, Y, Tryd.st24, Tryd.st36, Tryd.td1, Tryd.td2, Tryd.td24, Tryd.td28, Tryd.td3, Tryd.td36, Tryd.td4, Mly.av, Mpr.av, List.length_map]; (repeat refine And.intro (by first | omega | assumption | exact rfl) ?_); refine aa _ ?_; clear aa K0; simp only [put, app, af, aj, zE, zS, E])
          refine aq ?_
          refine hK45 _ ?_; clear hK45; refine ai [3, 4, 5, 6, 7, 8, 11, 12, 13, 14, 15, 16, 17, 18, 19, 81, 82, 83, 108, 121] ?_; simp only [ad, lkp, zE, reduceCtorEq, J, ae, E]
          refine aU ?_
          refine ⟨by first | exact .inl rfl | exact .inr rfl, _, rfl, ?_⟩; simp only [fzV, fz1, fzC, List.map_cons, List.map_nil, ad, lkp, zE, reduceCtorEq, J, ae, E, Mly.av, Mpr.av, List.length_map]
          rw [e9]
          first
          | exact VLE.of_eq rfl
          | exact br ⟨bq ⟨.refl _, .refl _, aQ rfl, aQ rfl, trivial⟩, bq ⟨aQ rfl, .refl _, .refl _, trivial⟩, aB (.refl _), aB (.refl _), trivial⟩
          | exact br ⟨bq ⟨.refl _, .refl _, aQ rfl, aQ rfl, trivial⟩, bq ⟨.refl _, .refl _, .refl _, trivial⟩, aB (.refl _), aB (.refl _), trivial⟩
          | exact br ⟨bq ⟨.refl _, .refl _, .refl _, .refl _, trivial⟩, bq ⟨aQ rfl, .refl _, .refl _, trivial⟩, aB (.refl _), aB (.refl _), trivial⟩
         ·(try simp only [zB, reduceCtorEq] at hc44)
          have ho2 : ¬ 1048576 < (aO m p (cxM (bW m p k a) k) (a : Int)).getD 0 0 := by omega
          refine aT ?_
          refine hK42 _ ?_; clear hK42; refine ai [3, 4, 5, 6, 7, 8, 11, 12, 13, 14, 15, 16, 17, 18, 19, 81, 82, 83, 108, 121] ?_; simp only [ad, lkp, zE, reduceCtorEq, J, ae, E]
          refine ah fun K46 hK46 => ?_
          refine ao hP hN rfl ?_
          iterate 2 (refine ag rfl fun K0 aa => ?_; simp only [zE, op1, ev, lkp, am, ak, ev, reduceCtorEq, J, E, U, Z, V, Y, Tryd.el25, Tryd.td25, Mly.av, Mpr.av, List.length_map]; refine aa _ ?_; clear aa K0; simp only [put, app, af, aj, zE, zS, E])
          refine ag rfl fun K0 aa => ?_
          refine aW (h := vl m p (bW m p k a).S (aN m p (cxM (bW m p k a) k) (a : Int)) (cwM (bW m p k a) k a) (hSI.kb hm hp) (hsn.kb hm hp) (by omega) hSI.le _ _ _ _ _ _ _ _ _) rfl rfl (by first | exact rfl | (simp only [ev, ad, lkp, zE, reduceCtorEq, J, ae, E]; exact rfl)) (by simp only [zE, zG, op1, ev, lkp, am, ak, ax, acs, bf, mv1, mvC, Ty.dflt, reduceCtorEq, J, E, U, Z, V, Y, Mly.av, Mpr.av, List.length_map, cxM, cwM]) ?_
          refine aa _ ?_; clear aa K0; simp only [put, app, af, aj, zE, zS, E]
          iterate 5 (refine ag rfl fun K0 aa => ?_; simp only [zE, op1, ev, lkp, am, ak, bS, reduceCtorEq, J, E, U, Z, V, Y, Tryd.td1, Tryd.td3, Tryd.td4, Mly.av, Mpr.av, List.length_map]; refine aa _ ?_; clear aa K0; simp only [put, app, af, aj, zE, zS, E])
          refine aq ?_
          refine hK46 _ ?_; clear hK46; refine ai [3, 4, 5, 6, 7, 8, 11, 12, 13, 14, 15, 16, 17, 18, 19, 20, 21, 81, 82, 83, 108, 121] ?_; simp only [ad, lkp, zE, reduceCtorEq, J, ae, E]
          refine ah fun K47 hK47 => ?_
          refine ah fun K48 hK48 => ?_
          refine ao hP hN rfl ?_
          iterate 2 (refine ag rfl fun K0 aa => ?_; simp only [zE, op1, ev, lkp, am, ak, fw, reduceCtorEq, J, E, U, Z, V, Y, Tryd.td4, Mly.av, Mpr.av, List.length_map]; (repeat refine And.intro (by first | omega | assumption | exact rfl) ?_); refine aa _ ?_; clear aa K0; simp only [put, app, af, aj, zE, zS, E])
          refine aq ?_
          refine hK48 _ ?_; clear hK48; refine ai [3, 4, 5, 6, 7, 8, 11, 12, 13, 14, 15, 16, 17, 18, 19, 20, 21, 81, 82, 83, 108, 121, 135] ?_; simp only [ad, lkp, zE, reduceCtorEq, J, ae, E]
          refine aL (by simp only [ev, ad, lkp, zE, reduceCtorEq, J, ae, E]; exact rfl) (fun hc49 => ?_) (fun hc49 => ?_)
          ·(try simp only [zB, reduceCtorEq] at hc49)
           have hsg : sgB (bW m p k a).S (aN m p (cxM (bW m p k a) k) (a : Int)) = false := by simpa using hc49
           have e9 := (lJ hv1 hv2 hi).trans (kh (iO hm hp hi hR) hR hkl (by omega) hF (wh ho1 ho2 hsg))
           refine ah fun K50 hK50 => ?_
           refine ao hP hN rfl ?_
           (refine ag rfl fun K0 aa => ?_; simp only [zE, op1, ev, lkp, am, ak, ev, reduceCtorEq, J, E, U, Z, V, Y, Tryd.td57, Mly.av, Mpr.av, List.length_map]; refine aa _ ?_; clear aa K0; simp only [put, app, af, aj, zE, zS, E])
           refine ag rfl fun K0 aa => ?_
           refine aW (h := aF (gp 11)) rfl rfl (by first | exact rfl | (simp only [ev, ad, lkp, zE, reduceCtorEq, J, ae, E]; exact rfl)) (by simp only [zE, zG, op1, ev, lkp, am, ak, ax, acs, bf, mv1, mvC, Ty.dflt, reduceCtorEq, J, E, U, Z, V, Y, Mly.av, Mpr.av, List.length_map]) ?_
           refine aa _ ?_; clear aa K0; simp only [put, app, af, aj, zE, zS, E]
           iterate 8 (refine ag rfl fun K0 aa => ?_; simp only [zE, op1, ev, lkp, am, ak, bS, bJ, Nat.mul_one, ax, aR, aM, acs, Ty.size, Ty.dflt, zG, reduceCtorEq, J, E, U, Z, V, Y, Tryd.st24, Tryd.st36, Tryd.td1, Tryd.td2, Tryd.td24, Tryd.td28, Tryd.td3, Tryd.td36, Tryd.td4, Mly.av, Mpr.av, List.length_map]; (repeat refine And.intro (by first | omega | assumption | exact rfl) ?_); refine aa _ ?_; clear aa K0; simp only [put, app, af, aj, zE, zS, E])
           refine aq ?_
           refine hK50 _ ?_; clear hK50; refine ai [3, 4, 5, 6, 7, 8, 11, 12, 13, 14, 15, 16, 17, 18, 19, 20, 21, 81, 82, 83, 108, 121, 135] ?_; simp only [ad, lkp, zE, reduceCtorEq, J, ae, E]
           refine aU ?_
           refine ⟨by first | exact .inl rfl | exact .inr rfl, _, rfl, ?_⟩; simp only [fzV, fz1, fzC, List.map_cons, List.map_nil, ad, lkp, zE, reduceCtorEq, J, ae, E, Mly.av, Mpr.av, List.length_map]
           rw [e9]
           first
           | exact VLE.of_eq rfl
           | exact br ⟨bq ⟨.refl _, .refl _, aQ rfl, aQ rfl, trivial⟩, bq ⟨aQ rfl, .refl _, .refl _, trivial⟩, aB (.refl _), aB (.refl _), trivial⟩
           | exact br ⟨bq ⟨.refl _, .refl _, aQ rfl, aQ rfl, trivial⟩, bq ⟨.refl _, .refl _, .refl _, trivial⟩, aB (.refl _), aB (.refl _), trivial⟩
           | exact br ⟨bq ⟨.refl _, .refl _, .refl _, .refl _, trivial⟩, bq ⟨aQ rfl, .refl _, .refl _, trivial⟩, aB (.refl _), aB (.refl _), trivial⟩
          ·(try simp only [zB, reduceCtorEq] at hc49)
           have hsg : sgB (bW m p k a).S (aN m p (cxM (bW m p k a) k) (a : Int)) = true := by simpa using hc49
           refine aT ?_
           refine hK47 _ ?_; clear hK47; refine ai [3, 4, 5, 6, 7, 8, 11, 12, 13, 14, 15, 16, 17, 18, 19, 20, 21, 81, 82, 83, 108, 121, 135] ?_; simp only [ad, lkp, zE, reduceCtorEq, J, ae, E]
           have hcl := gD (m := m) (p := p) (i := k) a; have hrn := eL m p k; rw [hrn.1, hrn.2.1] at hcl; have hcl3 := hcl.2.2.1; have hcl4 := hcl.2.2.2; simp only [List.length_nil, Nat.zero_add] at hcl3 hcl4
           refine cB hP hN Tryd.mixed rfl ?_
           iterate 12 (refine ag rfl fun K0 aa => ?_; simp only [zE, op1, ev, lkp, am, ak, b0, bl, c8, rep, aM, aR, ax, Ty.size, aP, bT, bC, bu, bv, bP, Nat.div_one, aV, bz, dite_true, aS, zG, Ty.dflt, Nat.mul_one, ne_eq, not_false_eq_true, Int.natCast_one, Int.mul_one, aE, aC, aD, acs, az, reduceCtorEq, J, E, U, Z, V, Y, Tryd.el25, Tryd.td1, Tryd.td25, Tryd.td3, Mly.av, Mpr.av, List.length_map]; (repeat refine And.intro (by first | omega | assumption | exact rfl) ?_); (first | refine aa _ ?_ | refine Or.inl (aa _ ?_)); clear aa K0; simp only [put, app, af, aj, zE, zS, E])
           refine aq ?_
           refine ⟨by kernel_rfl, ?_⟩
           refine hK34 _ ?_; clear hK34; refine ai [3, 4, 5, 6, 7, 8, 11, 12, 13, 14, 15, 16, 17, 18, 19, 20, 21, 81, 82, 83, 108, 121, 135] ?_; simp only [ad, lkp, zE, reduceCtorEq, J, ae, E]
           refine ao hP hN rfl ?_
           iterate 2 (refine ag rfl fun K0 aa => ?_; simp only [zE, op1, ev, lkp, am, ak, aJ, aK, aI, ay, aH, aX, reduceCtorEq, J, E, U, Z, V, Y, Tryd.td3, Mly.av, Mpr.av, List.length_map]; (repeat refine And.intro (by first | omega | assumption | exact rfl) ?_); refine aa _ ?_; clear aa K0; simp only [put, app, af, aj, zE, zS, E])
           refine aq ?_
           refine ⟨_, _, ?_, aY [3, 4, 5, 6, 7, 8, 11, 12, 13, 14, 15, 81, 82], a + 1, r + 1, by omega, sj hF (uX ho1 ho2 hsg), rfl, ?_⟩
           · omega
           · rw [dN]; rfl
       ·(try simp only [zB, reduceCtorEq] at hc33)
        refine cm ?_
        refine hK28 _ ?_; clear hK28; refine ai [3, 4, 5, 6, 7, 8, 11, 12, 13, 14, 15, 81, 82, 83] ?_; simp only [ad, lkp, zE, reduceCtorEq, J, ae, E]
        have hab : a = p.ab.toNat := by omega
        have hcl := gD (m := m) (p := p) (i := k) a; have hrn := eL m p k; rw [hrn.1, hrn.2.1] at hcl; have hcl3 := hcl.2.2.1; have hcl4 := hcl.2.2.2; simp only [List.length_nil, Nat.zero_add] at hcl3 hcl4
        have hSI2 := (f9 hm hp hi (kK hR hkl (by rw [← hab]; exact hF))).le
        have hcn := hrn.2.2.1; have hco := hrn.2.2.2; have hkk := iO hm hp hi hR
        refine da 10 rfl ?_; simp only [List.map_cons, List.map_nil, zS, J, and_self, and_true, true_and, and_false, false_and, if_true, if_false, eq_self, reduceCtorEq, Nat.one_ne_zero, Nat.zero_ne_one]
        refine da 11 rfl ?_; simp only [List.map_cons, List.map_nil, zS, J, and_self, and_true, true_and, and_false, false_and, if_true, if_false, eq_self, reduceCtorEq, Nat.one_ne_zero, Nat.zero_ne_one]
        refine d7 (n := 11) (L1 := [_, _, _, _, _, _, _, _, _, _, _]) rfl rfl (by rw [hB]; decide) rfl rfl ?_
        refine d7 (n := 10) (L1 := [_, _, _, _, _, _, _, _, _, _]) rfl rfl (by rw [hB]; decide) rfl rfl ?_
        refine cB hP hN Tryd.mixed rfl ?_
        iterate 14 (refine ag rfl fun K0 aa => ?_; simp only [zE, op1, ev, lkp, am, ak, aA, aE, Nat.mul_one, aC, aD, acs, Ty.dflt, zG, az, b0, bl, c8, rep, aM, aR, ax, Ty.size, aP, bT, bC, bu, bv, bP, Nat.div_one, aV, bz, dite_true, bJ, reduceCtorEq, J, E, U, Z, V, Y, Tryd.el22, Tryd.el25, Tryd.st24, Tryd.td1, Tryd.td2, Tryd.td22, Tryd.td24, Tryd.td25, Tryd.td3, Mly.av, Mpr.av, List.length_map]; (repeat refine And.intro (by first | omega | assumption | exact rfl) ?_); (first | refine aa _ ?_ | refine Or.inl (aa _ ?_)); clear aa K0; simp only [put, app, af, aj, zE, zS, E])
        refine aq ?_
        refine ⟨by kernel_rfl, ?_⟩
        refine hK26 _ ?_; clear hK26; refine ai [3, 4, 5, 6, 7, 8, 11, 12, 13, 14, 15, 81, 82, 83] ?_; simp only [ad, lkp, zE, reduceCtorEq, J, ae, E]
        refine ao hP hN rfl ?_
        iterate 3 (refine ag rfl fun K0 aa => ?_; simp only [zE, op1, ev, lkp, am, ak, aJ, aK, aI, ay, aH, aX, reduceCtorEq, J, E, U, Z, V, Y, Tryd.td3, Mly.av, Mpr.av, List.length_map]; (repeat refine And.intro (by first | omega | assumption | exact rfl) ?_); refine aa _ ?_; clear aa K0; simp only [put, app, af, aj, zE, zS, E])
        refine aq ?_
        have hR2 := kK hR hkl (by rw [← hab]; exact hF)
        refine ⟨_, _, ?_, aY [3, 4, 5, 6, 7, 8, 11, 12, 13], k + 1, u + 1, hR2, rfl, ?_⟩
        · omega
        · rw [fH, ← hab, hcl.1, hcl.2.1]; rfl
     ·(try simp only [zB, reduceCtorEq] at hc25)
      refine cm ?_
      refine hK20 _ ?_; clear hK20; refine ai [3, 4, 5, 6, 7, 8, 11, 12, 13, 77] ?_; simp only [ad, lkp, zE, reduceCtorEq, J, ae, E]
      refine ah fun K51 hK51 => ?_
      have e9 := (lJ hv1 hv2 hi).trans (vH (iO hm hp hi hR) hR (by omega))
      refine hY 8 7 rfl rfl ?_; simp only [List.map_cons, List.map_nil, frC, zS, J, and_self, and_true, true_and, and_false, false_and, if_true, if_false, eq_self, reduceCtorEq, Nat.one_ne_zero, Nat.zero_ne_one]
      refine hY 9 7 rfl rfl ?_; simp only [List.map_cons, List.map_nil, frC, zS, J, and_self, and_true, true_and, and_false, false_and, if_true, if_false, eq_self, reduceCtorEq, Nat.one_ne_zero, Nat.zero_ne_one]
      refine ao hP hN rfl ?_
      iterate 6 (refine ag rfl fun K0 aa => ?_; simp only [zE, op1, ev, lkp, am, ak, aE, Nat.mul_one, aC, aD, acs, Ty.dflt, zG, az, cF, bl, aR, ax, bJ, aM, Ty.size, reduceCtorEq, J, E, U, Z, V, Y, Tryd.st24, Tryd.st36, Tryd.td24, Tryd.td28, Tryd.td36, Tryd.td4, Mly.av, Mpr.av, List.length_map]; (repeat refine And.intro (by first | omega | assumption | exact rfl) ?_); (first | refine aa _ ?_ | refine Or.inl (aa _ ?_)); clear aa K0; simp only [put, app, af, aj, zE, zS, E])
      refine aq ?_
      refine hK51 _ ?_; clear hK51; refine ai [3, 4, 5, 6, 7, 8, 11, 12, 13, 77] ?_; simp only [ad, lkp, zE, reduceCtorEq, J, ae, E]
      refine aU ?_
      refine ⟨by first | exact .inl rfl | exact .inr rfl, _, rfl, ?_⟩; simp only [fzV, fz1, fzC, List.map_cons, List.map_nil, ad, lkp, zE, reduceCtorEq, J, ae, E, Mly.av, Mpr.av, List.length_map]
      rw [e9]
      first
      | exact VLE.of_eq rfl
      | exact br ⟨bq ⟨.refl _, .refl _, aQ rfl, aQ rfl, trivial⟩, bq ⟨aQ rfl, .refl _, .refl _, trivial⟩, aB (.refl _), aB (.refl _), trivial⟩
      | exact br ⟨bq ⟨.refl _, .refl _, aQ rfl, aQ rfl, trivial⟩, bq ⟨.refl _, .refl _, .refl _, trivial⟩, aB (.refl _), aB (.refl _), trivial⟩
      | exact br ⟨bq ⟨.refl _, .refl _, .refl _, .refl _, trivial⟩, bq ⟨aQ rfl, .refl _, .refl _, trivial⟩, aB (.refl _), aB (.refl _), trivial⟩
end Go.Proofs.YtceafldjjedhcaaDoor
