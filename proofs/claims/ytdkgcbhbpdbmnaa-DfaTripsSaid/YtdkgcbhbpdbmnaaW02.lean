/- Contracts of functions of this seat, each out of a walk through its code, and plain facts on what they compute. Conditions: those that each theorem names. -/
import Derived.Test.YtdkgcbhbpdbmnaaW01
set_option linter.unusedSimpArgs false
set_option linter.unusedVariables false
namespace Go.Proofs.Ytdkgcbhbpdbmnaa
open Go Go.AV
open Nat renaming reduceEqDiff → E, reduceAdd → D, reduceLeDiff → J, reduceLT → U, reduceMul → O, reduceSub → S
open List renaming set_cons_zero → aq, set_cons_succ → am
set_option maxRecDepth 100000 in
set_option maxHeartbeats 1500000 in
theorem gM (n f g : Nat) (cf cg : List Cap) (A : STP) (G : PP → Bool) (p : PP) (n1 n2 : Nat) (N : Int) (hN : N = (n : Int)) (hcf : cf.all f0 = true) (hcg : cg.all f0 = true) (hb : n1 * n2 ≤ 100000) (hb1 : n1 ≤ 100000) (hb2 : n2 ≤ 100000) (hn : n ≤ 1024) (h0 : inR n1 n2 p) (hA : ∀ q, inR n1 n2 q → ∀ x, x < n → inR n1 n2 (A q x)) (hf : ∀ q x, inR n1 n2 q → x < n → bJ Try.prog f (.agg [.int .i64 q.1, .int .i64 q.2] :: .one (.int .i64 (x : Int)) :: cf.map ba) (.agg [.int .i64 (A q x).1, .int .i64 (A q x).2])) (hg : ∀ q, inR n1 n2 q → bJ Try.prog g (.agg [.int .i64 q.1, .int .i64 q.2] :: cg.map ba) (.one (.bool (G q)))) (L0 : List AO) : fS Try.prog L0 46 [.agg [.int .i64 p.1, .int .i64 p.2], .one (.int .i64 N), .one (.fn f cf), .one (.fn g cg)] { av := .tup ([.one (.list (.pair (.pair (.int .i64) (.pair (.int .i64) .unit)) (.pair (.list (.int .i64)) .unit)) (List.map fX (dQ G (bv A n (n1 * n2) p))))] ++ .one (.mpv L0.length) :: [.one (.bool (dB G (bv A n (n1 * n2) p)))]), new := [.mp 84 .int (mpE (dQ G (bv A n (n1 * n2) p)))] } := by
 subst hN
 refine pT Try.func46 rfl (by kernel_rfl) (Nat.le_of_ble_eq_true rfl) (by simp only [List.all_cons, List.all_nil, eG, fI, fE, hcf, hcg, Bool.and_true, Bool.and_self]) (fun C hP hN hB => ?_) L0
 replace hN : C.N = 80 := hN
 simp only [Z, D]
 have hkv0 := lV h0 hb1 hb2
 refine ab fun K1 hK1 => ?_
 refine ai hP hN rfl ?_
 iterate 4 (refine ad rfl fun K0 V => ?_; simp only [zE, op1, ev, lkp, ah, ag, c0, au, reduceCtorEq, E, D, J, U, O, S, Try.ea81, Try.el83, Try.mk84, Try.sa81, Try.td4, Try.td81, Try.td83, List.length_map, List.length_append, List.length_cons, List.length_nil, bB.intsAC, Option.map_some, AV.valOf]; (repeat refine And.intro (by first | omega | assumption | exact rfl) ?_); refine V _ ?_; clear V K0; simp only [put, app, aa, af, zE, zS, D])
 refine aj ?_
 refine hK1 _ ?_; clear hK1; refine ae [0, 1, 2, 3, 4, 8, 9, 10] ?_; simp only [Y, lkp, zE, reduceCtorEq, E, Z, D]
 refine ab fun K2 hK2 => ?_
 refine ai hP hN rfl ?_
 iterate 5 (refine ad rfl fun K0 V => ?_; simp only [zE, op1, ev, lkp, ah, ag, gU, az, Nat.mul_one, ax, ay, acs, Ty.dflt, zG, ao, dd, bB, valOf, reduceCtorEq, E, D, J, U, O, S, Try.ea81, Try.mk84, Try.sa81, Try.td81, List.length_map, List.length_append, List.length_cons, List.length_nil, bB.intsAC, Option.map_some, AV.valOf]; (repeat refine And.intro (by first | omega | assumption | exact rfl) ?_); (first | refine V _ ?_ | refine Or.inl (V _ ?_)); clear V K0; simp only [put, app, aa, af, zE, zS, D])
 refine aj ?_
 refine hK2 _ ?_; clear hK2; refine ae [0, 1, 2, 3, 4, 8, 9, 10, 11] ?_; simp only [Y, lkp, zE, reduceCtorEq, E, Z, D]
 refine ab fun K3 hK3 => ?_
 refine ai hP hN rfl ?_
 iterate 2 (refine ad rfl fun K0 V => ?_; simp only [zE, op1, ev, lkp, ah, ag, az, Nat.mul_one, ax, ay, acs, Ty.dflt, zG, ao, bW, bh, aQ, au, reduceCtorEq, E, D, J, U, O, S, Try.ea81, Try.sa81, Try.st110, Try.td110, Try.td81, List.length_map, List.length_append, List.length_cons, List.length_nil, bB.intsAC, Option.map_some, AV.valOf]; (repeat refine And.intro (by first | omega | assumption | exact rfl) ?_); (first | refine V _ ?_ | refine Or.inl (V _ ?_)); clear V K0; simp only [put, app, aa, af, zE, zS, D])
 (refine ad rfl fun K0 V => ?_; simp only [zE, op1, ev, lkp, ah, ag, bn, bh, ch, rep, aL, aQ, au, Ty.size, reduceCtorEq, E, D, J, U, O, S, Try.el83, Try.td1, Try.td83, List.length_map, List.length_append, List.length_cons, List.length_nil, bB.intsAC, Option.map_some, AV.valOf]; (repeat refine And.intro (by first | omega | assumption | exact rfl) ?_); refine Or.inr (Or.inl (V _ ?_)); clear V K0; simp only [put, app, aa, af, zE, zS, D])
 (refine ad rfl fun K0 V => ?_; simp only [zE, op1, ev, lkp, ah, ag, ev, reduceCtorEq, E, D, J, U, O, S, Try.el83, Try.td83, List.length_map, List.length_append, List.length_cons, List.length_nil, bB.intsAC, Option.map_some, AV.valOf]; refine V _ ?_; clear V K0; simp only [put, app, aa, af, zE, zS, D])
 refine aj ?_
 refine hK3 _ ?_; clear hK3; refine ae [0, 1, 2, 3, 4, 8, 9, 10, 11, 12] ?_; simp only [Y, lkp, zE, reduceCtorEq, E, Z, D]
 refine ab fun K4 hK4 => ?_
 refine ab fun K5 hK5 => ?_
 refine ai hP hN rfl ?_
 iterate 2 (refine ad rfl fun K0 V => ?_; simp only [zE, op1, ev, lkp, ah, ag, az, Nat.mul_one, ax, ay, acs, Ty.dflt, zG, ao, reduceCtorEq, E, D, J, U, O, S, Try.ea81, Try.sa81, Try.td81, Try.td87, List.length_map, List.length_append, List.length_cons, List.length_nil, bB.intsAC, Option.map_some, AV.valOf]; (repeat refine And.intro (by first | omega | assumption | exact rfl) ?_); refine V _ ?_; clear V K0; simp only [put, app, aa, af, zE, zS, D])
 refine ad rfl fun K0 V => ?_
 refine aW (h := aG (hg p h0)) rfl rfl (by first | exact rfl | (simp only [ev, Y, lkp, zE, reduceCtorEq, E, Z, D]; exact rfl)) (by simp only [zE, zG, op1, ev, lkp, ah, ag, au, acs, ba, mv1, mvC, Ty.dflt, reduceCtorEq, E, D, J, U, O, S, List.length_map, List.length_append, List.length_cons, List.length_nil, bB.intsAC, Option.map_some, AV.valOf]) ?_
 refine V _ ?_; clear V K0; simp only [put, app, aa, af, zE, zS, D]
 refine aj ?_
 refine hK5 _ ?_; clear hK5; refine ae [0, 1, 2, 3, 4, 8, 9, 10, 11, 12, 26] ?_; simp only [Y, lkp, zE, reduceCtorEq, E, Z, D]
 refine aF (by simp only [ev, Y, lkp, zE, reduceCtorEq, E, Z, D]; exact rfl) (fun hc6 => ?_) (fun hc6 => ?_)
 ·(try simp only [zB, reduceCtorEq] at hc6)
  have hg0 : G p = true := hc6
  obtain ⟨k9, hk9⟩ := gq A n (n1 * n2 + 1) 0 [(p, [])]
  have hres : dQ G (bv A n (n1 * n2) p) = [(p, [])] ∧ dB G (bv A n (n1 * n2) p) = true := by unfold bv; rw [hk9]; exact lP (l := []) (e := (p, [])) (by simp) hg0
  refine ab fun K7 hK7 => ?_
  refine ai hP hN rfl ?_
  iterate 5 (refine ad rfl fun K0 V => ?_; simp only [zE, op1, ev, lkp, ah, ag, ev, reduceCtorEq, E, D, J, U, O, S, Try.el83, Try.mk84, Try.td4, Try.td83, List.length_map, List.length_append, List.length_cons, List.length_nil, bB.intsAC, Option.map_some, AV.valOf]; refine V _ ?_; clear V K0; simp only [put, app, aa, af, zE, zS, D])
  refine aj ?_
  refine hK7 _ ?_; clear hK7; refine ae [0, 1, 2, 3, 4, 8, 9, 10, 11, 12, 26] ?_; simp only [Y, lkp, zE, reduceCtorEq, E, Z, D]
  refine aI ?_
  refine ⟨by first | exact .inl rfl | exact .inr rfl, _, rfl, _, [_], [_], rfl, ?_, ?_, ?_⟩
  · rw [hres.1]; rfl
  · simp only [fz1, fzC, List.map_cons, List.map_nil, Y, lkp, zE, reduceCtorEq, E, hres.1, List.map_append, if_true] <;> rfl
  · rw [hres.2]; rfl
 ·(try simp only [zB, reduceCtorEq] at hc6)
  have hg0 : G p = false := by simpa using hc6
  refine aK ?_
  refine hK4 _ ?_; clear hK4; refine ae [0, 1, 2, 3, 4, 8, 9, 10, 11, 12, 26] ?_; simp only [Y, lkp, zE, reduceCtorEq, E, Z, D]
  refine ab fun K8 hK8 => ?_
  refine ab fun K9 hK9 => ?_
  refine ai hP hN rfl ?_
  (refine ad rfl fun K0 V => ?_; simp only [zE, op1, ev, lkp, ah, ag, ev, reduceCtorEq, E, D, J, U, O, S, Try.td3, List.length_map, List.length_append, List.length_cons, List.length_nil, bB.intsAC, Option.map_some, AV.valOf]; refine V _ ?_; clear V K0; simp only [put, app, aa, af, zE, zS, D])
  refine aj ?_
  refine hK9 _ ?_; clear hK9; refine ae [0, 1, 2, 3, 4, 8, 9, 10, 11, 12, 13, 26] ?_; simp only [Y, lkp, zE, reduceCtorEq, E, Z, D]
  refine aP ?_
  refine bG (fun n10 s10 => ∃ (k : Nat) (l : List W3) (v : Nat), (DW n1 n2 l) ∧ (dz A n (n1 * n2 + 1 - k) k l = (bv A n (n1 * n2) p)) ∧ (k ≤ l.length) ∧ (∀ e, e ∈ l → G e.1 = false) ∧ n10 = n1 * n2 + 1 - k ∧ s10 = { env := [(1, .one (.int .i64 (n : Int))), (2, .one (.fn f cf)), (3, .one (.fn g cg)), (8, .one .nils), (9, .one .junk), (10, .one (.bool false)), (11, .one (.mpv 1)), (12, .one (.row 2 v)), (13, .one (.int .i64 (k : Int)))], L := [.vars 81 [.int .i64 p.1, .int .i64 p.2], .mp 84 .int (mpE l), .row (.pair (.pair (.int .i64) (.pair (.int .i64) .unit)) (.pair (.list (.int .i64)) .unit)) 110 v (List.map fX l)] }) ?_ ?_
  ·exact ⟨_, _, aO [1, 2, 3, 8, 9, 10, 11, 12, 13], 0, [(p, [])], 0, m8 h0, rfl, by simp, fun e he => by simp at he; subst he; exact hg0, rfl, rfl⟩
  ·rintro n10 s10 ⟨k, l, v, hdw, hrun, hk, hno, rfl, rfl⟩
   refine ab fun K11 hK11 => ?_
   refine ab fun K12 hK12 => ?_
   have hdl := hdw.le
   refine ai hP hN rfl ?_
   iterate 4 (refine ad rfl fun K0 V => ?_; simp only [zE, op1, ev, lkp, ah, ag, aH, bu, bb, aY, aZ, br, Nat.div_one, aM, b0, Ty.size, aL, dite_true, aE, aC, aD, ar, aB, aN, reduceCtorEq, E, D, J, U, O, S, Try.el83, Try.td3, Try.td4, Try.td83, List.length_map, List.length_append, List.length_cons, List.length_nil, bB.intsAC, Option.map_some, AV.valOf]; (repeat refine And.intro (by first | omega | assumption | exact rfl) ?_); (first | refine V _ ?_ | refine Or.inl (V _ ?_)); clear V K0; simp only [put, app, aa, af, zE, zS, D])
   refine aj ?_
   refine hK12 _ ?_; clear hK12; refine ae [1, 2, 3, 8, 9, 10, 11, 12, 13, 32] ?_; simp only [Y, lkp, zE, reduceCtorEq, E, Z, D]
   refine aF (by simp only [ev, Y, lkp, zE, reduceCtorEq, E, Z, D]; exact rfl) (fun hc13 => ?_) (fun hc13 => ?_)
   ·(try simp only [zB, reduceCtorEq] at hc13)
    refine aK ?_
    refine hK11 _ ?_; clear hK11; refine ae [1, 2, 3, 8, 9, 10, 11, 12, 13, 32] ?_; simp only [Y, lkp, zE, reduceCtorEq, E, Z, D]
    refine ab fun K14 hK14 => ?_
    refine aP ?_
    refine ab fun K15 hK15 => ?_
    have hkl : k < l.length := by omega
    refine ai hP hN rfl ?_
    iterate 2 (refine ad rfl fun K0 V => ?_; simp only [zE, op1, ev, lkp, ah, ag, ev, reduceCtorEq, E, D, J, U, O, S, Try.td3, List.length_map, List.length_append, List.length_cons, List.length_nil, bB.intsAC, Option.map_some, AV.valOf]; refine V _ ?_; clear V K0; simp only [put, app, aa, af, zE, zS, D])
    refine aj ?_
    refine hK15 _ ?_; clear hK15; refine ae [1, 2, 3, 8, 9, 10, 11, 12, 13, 32, 35, 36] ?_; simp only [Y, lkp, zE, reduceCtorEq, E, Z, D]
    refine aP ?_
    refine bG (fun n16 s16 => ∃ (x : Nat) (v2 : Nat), (x ≤ n) ∧ (DW n1 n2 (cj A (l.getD k w30) l x)) ∧ (∀ e, e ∈ (cj A (l.getD k w30) l x) → G e.1 = false) ∧ n16 = n - x ∧ s16 = { env := [(1, .one (.int .i64 (n : Int))), (2, .one (.fn f cf)), (3, .one (.fn g cg)), (8, .one .nils), (9, .one .junk), (10, .one (.bool false)), (11, .one (.mpv 1)), (12, .one (.row 2 v2)), (13, .one (.int .i64 (k : Int))), (35, .one (.int .i64 (n : Int))), (36, .one (.int .i64 (x : Int)))], L := [.vars 81 [.int .i64 p.1, .int .i64 p.2], .mp 84 .int (mpE (cj A (l.getD k w30) l x)), .row (.pair (.pair (.int .i64) (.pair (.int .i64) .unit)) (.pair (.list (.int .i64)) .unit)) 110 v2 (List.map fX (cj A (l.getD k w30) l x))] }) ?_ ?_
    ·exact ⟨_, _, aO [1, 2, 3, 8, 9, 10, 11, 12, 13, 35, 36], 0, v, Nat.zero_le _, hdw, hno, rfl, rfl⟩
    ·rintro n16 s16 ⟨x, v2, hx, hdc, hnc, rfl, rfl⟩
     refine ab fun K17 hK17 => ?_
     refine ai hP hN rfl ?_
     (refine ad rfl fun K0 V => ?_; simp only [zE, op1, ev, lkp, ah, ag, aE, aC, aD, ar, aB, aN, reduceCtorEq, E, D, J, U, O, S, Try.td3, Try.td4, List.length_map, List.length_append, List.length_cons, List.length_nil, bB.intsAC, Option.map_some, AV.valOf]; (repeat refine And.intro (by first | omega | assumption | exact rfl) ?_); refine V _ ?_; clear V K0; simp only [put, app, aa, af, zE, zS, D])
     refine aj ?_
     refine hK17 _ ?_; clear hK17; refine ae [1, 2, 3, 8, 9, 10, 11, 12, 13, 35, 36, 37] ?_; simp only [Y, lkp, zE, reduceCtorEq, E, Z, D]
     refine ab fun K18 hK18 => ?_
     refine aF (by simp only [ev, Y, lkp, zE, reduceCtorEq, E, Z, D]; exact rfl) (fun hc19 => ?_) (fun hc19 => ?_)
     ·(try simp only [zB, reduceCtorEq] at hc19)
      refine aK ?_
      refine hK18 _ ?_; clear hK18; refine ae [1, 2, 3, 8, 9, 10, 11, 12, 13, 35, 36, 37] ?_; simp only [Y, lkp, zE, reduceCtorEq, E, Z, D]
      refine ab fun K20 hK20 => ?_
      refine aP ?_
      refine ab fun K21 hK21 => ?_
      refine ai hP hN rfl ?_
      iterate 2 (refine ad rfl fun K0 V => ?_; simp only [zE, op1, ev, lkp, ah, ag, ev, reduceCtorEq, E, D, J, U, O, S, Try.td3, List.length_map, List.length_append, List.length_cons, List.length_nil, bB.intsAC, Option.map_some, AV.valOf]; refine V _ ?_; clear V K0; simp only [put, app, aa, af, zE, zS, D])
      refine aj ?_
      refine hK21 _ ?_; clear hK21; refine ae [1, 2, 3, 8, 9, 10, 11, 12, 13, 14, 35, 36, 37] ?_; simp only [Y, lkp, zE, reduceCtorEq, E, Z, D]
      refine ab fun K22 hK22 => ?_
      have hge := kf A (l.getD k w30) l x; have hgi : ∀ d, (List.map fX (cj A (l.getD k w30) l x)).getD k d = (((l.getD k w30).1.1, ((l.getD k w30).1.2, ())), ((l.getD k w30).2, ())) := fun d => by (first | rw [iD (by omega), hO A _ x hkl] | rw [iD (by omega)])
      have hcl := hdc.le; have hwl := hdw.wl _ (dx hkl); have hq9 := hA _ (hdw.rg _ (dx hkl)) x (by omega); have hkv := lV hq9 hb1 hb2
      refine ai hP hN rfl ?_
      iterate 7 (refine ad rfl fun K0 V => ?_; simp only [zE, op1, ev, lkp, ah, ag, aJ, zG, Ty.dflt, Ty.size, Nat.mul_one, ne_eq, not_false_eq_true, Int.natCast_one, Int.mul_one, aw, az, ax, ay, acs, ao, reduceCtorEq, E, D, J, U, O, S, Try.ea81, Try.el83, Try.sa81, Try.st110, Try.td110, Try.td3, Try.td81, Try.td82, Try.td83, List.length_map, List.length_append, List.length_cons, List.length_nil, bB.intsAC, Option.map_some, AV.valOf, hgi]; (repeat refine And.intro (by first | omega | assumption | exact rfl) ?_); refine V _ ?_; clear V K0; simp only [put, app, aa, af, zE, zS, D])
      refine ad rfl fun K0 V => ?_
      refine aW (h := aG (hf (l.getD k w30).1 x (hdw.rg _ (dx hkl)) (by omega))) rfl rfl (by first | exact rfl | (simp only [ev, Y, lkp, zE, reduceCtorEq, E, Z, D]; exact rfl)) (by simp only [zE, zG, op1, ev, lkp, ah, ag, au, acs, ba, mv1, mvC, Ty.dflt, reduceCtorEq, E, D, J, U, O, S, List.length_map, List.length_append, List.length_cons, List.length_nil, bB.intsAC, Option.map_some, AV.valOf, hgi]) ?_
      refine V _ ?_; clear V K0; simp only [put, app, aa, af, zE, zS, D]
      iterate 2 (refine ad rfl fun K0 V => ?_; simp only [zE, op1, ev, lkp, ah, ag, bQ, bj, Nat.mul_one, au, aQ, aL, acs, Ty.size, Ty.dflt, zG, reduceCtorEq, E, D, J, U, O, S, Try.ea81, Try.sa81, Try.td81, List.length_map, List.length_append, List.length_cons, List.length_nil, bB.intsAC, Option.map_some, AV.valOf, hgi]; (repeat refine And.intro (by first | omega | assumption | exact rfl) ?_); (first | refine V _ ?_ | refine Or.inl (V _ ?_)); clear V K0; simp only [put, app, aa, af, zE, zS, D])
      refine aj ?_
      refine hK22 _ ?_; clear hK22; refine ae [1, 2, 3, 8, 9, 10, 11, 12, 13, 14, 15, 35, 36, 37] ?_; simp only [Y, lkp, zE, reduceCtorEq, E, Z, D]
      refine ab fun K23 hK23 => ?_
      refine ab fun K24 hK24 => ?_
      refine ai hP hN rfl ?_
      iterate 8 (refine ad rfl fun K0 V => ?_; simp only [zE, op1, ev, lkp, ah, ag, az, Nat.mul_one, ax, ay, acs, Ty.dflt, zG, ao, gj, bB, VK.ac, bI, reduceCtorEq, E, D, J, U, O, S, Try.ea81, Try.mk84, Try.sa81, Try.td1, Try.td3, Try.td4, Try.td81, List.length_map, List.length_append, List.length_cons, List.length_nil, bB.intsAC, Option.map_some, AV.valOf]; (repeat refine And.intro (by first | omega | assumption | exact rfl) ?_); (first | refine V _ ?_ | refine Or.inl (V _ ?_)); clear V K0; simp only [put, app, aa, af, zE, zS, D])
      refine aj ?_
      refine hK24 _ ?_; clear hK24; refine ae [1, 2, 3, 8, 9, 10, 11, 12, 13, 14, 15, 17, 35, 36, 37] ?_; simp only [Y, lkp, zE, reduceCtorEq, E, Z, D]
      refine ab fun K25 hK25 => ?_
      refine ai hP hN rfl ?_
      (refine ad rfl fun K0 V => ?_; simp only [zE, op1, ev, lkp, ah, ag, ev, reduceCtorEq, E, D, J, U, O, S, Try.td4, List.length_map, List.length_append, List.length_cons, List.length_nil, bB.intsAC, Option.map_some, AV.valOf]; refine V _ ?_; clear V K0; simp only [put, app, aa, af, zE, zS, D])
      refine aj ?_
      refine hK25 _ ?_; clear hK25; refine ae [1, 2, 3, 8, 9, 10, 11, 12, 13, 14, 15, 17, 35, 36, 37, 53] ?_; simp only [Y, lkp, zE, reduceCtorEq, E, Z, D]
      refine aF (by simp only [ev, Y, lkp, zE, reduceCtorEq, E, Z, D]; exact rfl) (fun hc26 => ?_) (fun hc26 => ?_)
      ·(try simp only [zB, reduceCtorEq] at hc26)
       have hin : (A (l.getD k w30).1 x) ∈ (cj A (l.getD k w30) l x).map Prod.fst := rm hc26
       refine bD ?_
       refine hK20 _ ?_; clear hK20; refine ae [1, 2, 3, 8, 9, 10, 11, 12, 13, 14, 15, 17, 35, 36, 37, 53] ?_; simp only [Y, lkp, zE, reduceCtorEq, E, Z, D]
       refine ae [1, 2, 3, 8, 9, 10, 11, 12, 13, 35, 36] ?_; simp only [Y, lkp, zE, reduceCtorEq, E]
       refine fO (L1 := [_, _, _]) rfl hB (by simp only [List.all_cons, List.all_nil, fJ, gZ, d8 hcf, d8 hcg]; rfl) rfl ?_
       refine ai hP hN rfl ?_
       iterate 2 (refine ad rfl fun K0 V => ?_; simp only [zE, op1, ev, lkp, ah, ag, aE, aC, aD, ar, aB, aN, reduceCtorEq, E, D, J, U, O, S, Try.td3, List.length_map, List.length_append, List.length_cons, List.length_nil, bB.intsAC, Option.map_some, AV.valOf]; (repeat refine And.intro (by first | omega | assumption | exact rfl) ?_); refine V _ ?_; clear V K0; simp only [put, app, aa, af, zE, zS, D])
       refine aj ?_
       first
       | (have hs9 : cj A (l.getD k w30) l (x + 1) = (cj A (l.getD k w30) l x) := by rw [cu, fF hin]
          refine ⟨_, _, ?_, aO [1, 2, 3, 8, 9, 10, 11, 12, 13, 35, 36], x + 1, v2, by omega, by rw [hs9]; exact hdc, by rw [hs9]; exact hnc, rfl, ?_⟩
          · omega
          · rw [hs9]; rfl)
       | (have hs9 : cj A (l.getD k w30) l (x + 1) = (cj A (l.getD k w30) l x) ++ [((A (l.getD k w30).1 x), (l.getD k w30).2 ++ [(x : Int)])] := by rw [cu, dW hnin]
          have hm9 : (l.getD k w30) ∈ (cj A (l.getD k w30) l x) := by obtain ⟨k8, h8⟩ := dn A (l.getD k w30) l x; rw [h8]; exact List.mem_append.2 (.inl (dx hkl))
          refine ⟨_, _, ?_, aO [1, 2, 3, 8, 9, 10, 11, 12, 13, 35, 36], x + 1, v2 + 1, by omega, by rw [cu]; exact hdc.step hA hm9 (by omega), ?_, rfl, ?_⟩
          · omega
          · rw [hs9]; intro e he; rcases List.mem_append.1 he with he | he
            · exact hnc e he
            · simp at he; subst he; exact hgx
          · rw [hs9, List.map_append]; rfl)
      ·(try simp only [zB, reduceCtorEq] at hc26)
       have hn8 : (cC (mpE (cj A (l.getD k w30) l x)) (.arr [(A (l.getD k w30).1 x).1, (A (l.getD k w30).1 x).2])).isSome = false := hc26
       have hnin : (A (l.getD k w30).1 x) ∉ (cj A (l.getD k w30) l x).map Prod.fst := qa hdc.nd hn8
       refine aK ?_
       refine hK23 _ ?_; clear hK23; refine ae [1, 2, 3, 8, 9, 10, 11, 12, 13, 14, 15, 17, 35, 36, 37, 53] ?_; simp only [Y, lkp, zE, reduceCtorEq, E, Z, D]
       refine ab fun K27 hK27 => ?_
       refine ai hP hN rfl ?_
       iterate 5 (refine ad rfl fun K0 V => ?_; simp only [zE, op1, ev, lkp, ah, ag, az, Nat.mul_one, ax, ay, acs, Ty.dflt, zG, ao, aH, bu, bb, aY, aZ, br, Nat.div_one, aM, b0, Ty.size, aL, dite_true, dd, bB, valOf, reduceCtorEq, E, D, J, U, O, S, Try.ea81, Try.el83, Try.mk84, Try.sa81, Try.td3, Try.td81, Try.td83, List.length_map, List.length_append, List.length_cons, List.length_nil, bB.intsAC, Option.map_some, AV.valOf]; (repeat refine And.intro (by first | omega | assumption | exact rfl) ?_); (first | refine V _ ?_ | refine Or.inl (V _ ?_)); clear V K0; simp only [put, app, aa, af, zE, zS, D])
       refine aj ?_
       refine hK27 _ ?_; clear hK27; refine ae [1, 2, 3, 8, 9, 10, 11, 12, 13, 14, 15, 17, 35, 36, 37, 53] ?_; simp only [Y, lkp, zE, reduceCtorEq, E, Z, D]
       refine ab fun K28 hK28 => ?_
       rw [show dT (mpE (cj A (l.getD k w30) l x)) (.arr [(A (l.getD k w30).1 x).1, (A (l.getD k w30).1 x).2]) ((cj A (l.getD k w30) l x).length : Int) = mpE ((cj A (l.getD k w30) l x) ++ [((A (l.getD k w30).1 x), (l.getD k w30).2 ++ [(x : Int)])]) from nJ hnin]
       refine bY hP hN Try.mixed rfl ?_
       iterate 10 (refine ad rfl fun K0 V => ?_; simp only [zE, op1, ev, lkp, ah, ag, az, Nat.mul_one, ax, ay, acs, Ty.dflt, zG, ao, aJ, Ty.size, ne_eq, not_false_eq_true, Int.natCast_one, Int.mul_one, aw, bn, bh, ch, rep, aL, aQ, au, reduceCtorEq, E, D, J, U, O, S, Try.ea81, Try.el22, Try.el26, Try.el83, Try.sa81, Try.st110, Try.td1, Try.td110, Try.td2, Try.td22, Try.td26, Try.td3, Try.td81, Try.td83, List.length_map, List.length_append, List.length_cons, List.length_nil, bB.intsAC, Option.map_some, AV.valOf, hgi, List.flatten_cons, List.flatten_nil, List.append_nil]; (repeat refine And.intro (by first | omega | assumption | exact rfl) ?_); (first | refine V _ ?_ | refine Or.inl (V _ ?_)); clear V K0; simp only [put, app, aa, af, zE, zS, D, List.flatten_cons, List.flatten_nil, List.append_nil])
       refine ad rfl fun K0 V => ?_
       refine aW (h := aG (qV [(l.getD k w30).2, [(x : Int)]] (by rw [nW]; omega))) rfl rfl (by first | exact rfl | (simp only [ev, Y, lkp, zE, reduceCtorEq, E, Z, D]; exact rfl)) (by simp only [zE, zG, op1, ev, lkp, ah, ag, au, acs, ba, mv1, mvC, Ty.dflt, reduceCtorEq, E, D, J, U, O, S, List.length_map, List.length_append, List.length_cons, List.length_nil, bB.intsAC, Option.map_some, AV.valOf, hgi, List.flatten_cons, List.flatten_nil, List.append_nil]) ?_
       refine V _ ?_; clear V K0; simp only [put, app, aa, af, zE, zS, D, List.flatten_cons, List.flatten_nil, List.append_nil]
       iterate 4 (refine ad rfl fun K0 V => ?_; simp only [zE, op1, ev, lkp, ah, ag, bW, bh, aQ, au, bn, ch, rep, aL, Ty.size, aH, bu, bb, aY, aZ, br, Nat.div_one, aM, b0, dite_true, reduceCtorEq, E, D, J, U, O, S, Try.el83, Try.st110, Try.td1, Try.td110, Try.td83, List.length_map, List.length_append, List.length_cons, List.length_nil, bB.intsAC, Option.map_some, AV.valOf, hgi, List.flatten_cons, List.flatten_nil, List.append_nil]; (repeat refine And.intro (by first | omega | assumption | exact rfl) ?_); (first | refine V _ ?_ | refine Or.inl (V _ ?_)); clear V K0; simp only [put, app, aa, af, zE, zS, D, List.flatten_cons, List.flatten_nil, List.append_nil])
       refine aj ?_
       refine ⟨by kernel_rfl, ?_⟩
       refine hK28 _ ?_; clear hK28; refine ae [1, 2, 3, 8, 9, 10, 11, 12, 13, 14, 15, 17, 35, 36, 37, 53] ?_; simp only [Y, lkp, zE, reduceCtorEq, E, Z, D]
       refine ab fun K29 hK29 => ?_
       refine ai hP hN rfl ?_
       iterate 2 (refine ad rfl fun K0 V => ?_; simp only [zE, op1, ev, lkp, ah, ag, az, Nat.mul_one, ax, ay, acs, Ty.dflt, zG, ao, reduceCtorEq, E, D, J, U, O, S, Try.ea81, Try.sa81, Try.td81, Try.td87, List.length_map, List.length_append, List.length_cons, List.length_nil, bB.intsAC, Option.map_some, AV.valOf]; (repeat refine And.intro (by first | omega | assumption | exact rfl) ?_); refine V _ ?_; clear V K0; simp only [put, app, aa, af, zE, zS, D])
       refine ad rfl fun K0 V => ?_
       refine aW (h := aG (hg (A (l.getD k w30).1 x) hq9)) rfl rfl (by first | exact rfl | (simp only [ev, Y, lkp, zE, reduceCtorEq, E, Z, D]; exact rfl)) (by simp only [zE, zG, op1, ev, lkp, ah, ag, au, acs, ba, mv1, mvC, Ty.dflt, reduceCtorEq, E, D, J, U, O, S, List.length_map, List.length_append, List.length_cons, List.length_nil, bB.intsAC, Option.map_some, AV.valOf]) ?_
       refine V _ ?_; clear V K0; simp only [put, app, aa, af, zE, zS, D]
       refine aj ?_
       refine hK29 _ ?_; clear hK29; refine ae [1, 2, 3, 8, 9, 10, 11, 12, 13, 14, 15, 17, 35, 36, 37, 53, 74] ?_; simp only [Y, lkp, zE, reduceCtorEq, E, Z, D]
       refine aF (by simp only [ev, Y, lkp, zE, reduceCtorEq, E, Z, D]; exact rfl) (fun hc30 => ?_) (fun hc30 => ?_)
       ·(try simp only [zB, reduceCtorEq] at hc30)
        have hgx : G (A (l.getD k w30).1 x) = true := hc30
        obtain ⟨r9, hr9⟩ := p5 (A := A) (n := n) (f := n1 * n2 - k) (x := x) hkl (by omega) hnin
        have hres : dQ G (bv A n (n1 * n2) p) = (cj A (l.getD k w30) l x) ++ [((A (l.getD k w30).1 x), (l.getD k w30).2 ++ [(x : Int)])] ∧ dB G (bv A n (n1 * n2) p) = true := by rw [← hrun, show n1 * n2 + 1 - k = n1 * n2 - k + 1 by omega, hr9]; exact lP hnc hgx
        refine ab fun K31 hK31 => ?_
        refine ai hP hN rfl ?_
        iterate 5 (refine ad rfl fun K0 V => ?_; simp only [zE, op1, ev, lkp, ah, ag, ev, reduceCtorEq, E, D, J, U, O, S, Try.el83, Try.mk84, Try.td4, Try.td83, List.length_map, List.length_append, List.length_cons, List.length_nil, bB.intsAC, Option.map_some, AV.valOf]; refine V _ ?_; clear V K0; simp only [put, app, aa, af, zE, zS, D])
        refine aj ?_
        refine hK31 _ ?_; clear hK31; refine ae [1, 2, 3, 8, 9, 10, 11, 12, 13, 14, 15, 17, 35, 36, 37, 53, 74] ?_; simp only [Y, lkp, zE, reduceCtorEq, E, Z, D]
        refine aI ?_
        refine ⟨by first | exact .inl rfl | exact .inr rfl, _, rfl, _, [_], [_], rfl, ?_, ?_, ?_⟩
        · rw [hres.1]; rfl
        · simp only [fz1, fzC, List.map_cons, List.map_nil, Y, lkp, zE, reduceCtorEq, E, hres.1, List.map_append, if_true] <;> rfl
        · rw [hres.2]; rfl
       ·(try simp only [zB, reduceCtorEq] at hc30)
        have hgx : G (A (l.getD k w30).1 x) = false := by simpa using hc30
        refine aK ?_
        refine hK20 _ ?_; clear hK20; refine ae [1, 2, 3, 8, 9, 10, 11, 12, 13, 14, 15, 17, 35, 36, 37, 53, 74] ?_; simp only [Y, lkp, zE, reduceCtorEq, E, Z, D]
        refine ae [1, 2, 3, 8, 9, 10, 11, 12, 13, 35, 36] ?_; simp only [Y, lkp, zE, reduceCtorEq, E]
        refine fO (L1 := [_, _, _]) rfl hB (by simp only [List.all_cons, List.all_nil, fJ, gZ, d8 hcf, d8 hcg]; rfl) rfl ?_
        refine ai hP hN rfl ?_
        iterate 2 (refine ad rfl fun K0 V => ?_; simp only [zE, op1, ev, lkp, ah, ag, aE, aC, aD, ar, aB, aN, reduceCtorEq, E, D, J, U, O, S, Try.td3, List.length_map, List.length_append, List.length_cons, List.length_nil, bB.intsAC, Option.map_some, AV.valOf]; (repeat refine And.intro (by first | omega | assumption | exact rfl) ?_); refine V _ ?_; clear V K0; simp only [put, app, aa, af, zE, zS, D])
        refine aj ?_
        first
        | (have hs9 : cj A (l.getD k w30) l (x + 1) = (cj A (l.getD k w30) l x) := by rw [cu, fF hin]
           refine ⟨_, _, ?_, aO [1, 2, 3, 8, 9, 10, 11, 12, 13, 35, 36], x + 1, v2, by omega, by rw [hs9]; exact hdc, by rw [hs9]; exact hnc, rfl, ?_⟩
           · omega
           · rw [hs9]; rfl)
        | (have hs9 : cj A (l.getD k w30) l (x + 1) = (cj A (l.getD k w30) l x) ++ [((A (l.getD k w30).1 x), (l.getD k w30).2 ++ [(x : Int)])] := by rw [cu, dW hnin]
           have hm9 : (l.getD k w30) ∈ (cj A (l.getD k w30) l x) := by obtain ⟨k8, h8⟩ := dn A (l.getD k w30) l x; rw [h8]; exact List.mem_append.2 (.inl (dx hkl))
           refine ⟨_, _, ?_, aO [1, 2, 3, 8, 9, 10, 11, 12, 13, 35, 36], x + 1, v2 + 1, by omega, by rw [cu]; exact hdc.step hA hm9 (by omega), ?_, rfl, ?_⟩
           · omega
           · rw [hs9]; intro e he; rcases List.mem_append.1 he with he | he
             · exact hnc e he
             · simp at he; subst he; exact hgx
           · rw [hs9, List.map_append]; rfl)
     ·(try simp only [zB, reduceCtorEq] at hc19)
      refine bD ?_
      refine hK14 _ ?_; clear hK14; refine ae [1, 2, 3, 8, 9, 10, 11, 12, 13, 35, 36, 37] ?_; simp only [Y, lkp, zE, reduceCtorEq, E, Z, D]
      refine ai hP hN rfl ?_
      iterate 3 (refine ad rfl fun K0 V => ?_; simp only [zE, op1, ev, lkp, ah, ag, aE, aC, aD, ar, aB, aN, reduceCtorEq, E, D, J, U, O, S, Try.td3, List.length_map, List.length_append, List.length_cons, List.length_nil, bB.intsAC, Option.map_some, AV.valOf]; (repeat refine And.intro (by first | omega | assumption | exact rfl) ?_); refine V _ ?_; clear V K0; simp only [put, app, aa, af, zE, zS, D])
      refine aj ?_
      obtain rfl : x = n := by omega
      have hge9 := kf A (l.getD k w30) l x
      refine ⟨_, _, ?_, aO [1, 2, 3, 8, 9, 10, 11, 12, 13], k + 1, (cj A (l.getD k w30) l x), v2, hdc, ?_, by omega, hnc, rfl, rfl⟩
      · omega
      · rw [← hrun, show n1 * n2 + 1 - k = n1 * n2 + 1 - (k + 1) + 1 by omega, ez _ _ _ hkl]
   ·(try simp only [zB, reduceCtorEq] at hc13)
    have hres : dQ G (bv A n (n1 * n2) p) = l ∧ dB G (bv A n (n1 * n2) p) = false := by rw [← hrun, gh _ _ _ _ (by omega)]; exact kl hno
    refine bD ?_
    refine hK8 _ ?_; clear hK8; refine ae [1, 2, 3, 8, 9, 10, 11, 12, 13, 32] ?_; simp only [Y, lkp, zE, reduceCtorEq, E, Z, D]
    refine ab fun K32 hK32 => ?_
    refine ai hP hN rfl ?_
    iterate 5 (refine ad rfl fun K0 V => ?_; simp only [zE, op1, ev, lkp, ah, ag, ev, reduceCtorEq, E, D, J, U, O, S, Try.el83, Try.mk84, Try.td4, Try.td83, List.length_map, List.length_append, List.length_cons, List.length_nil, bB.intsAC, Option.map_some, AV.valOf]; refine V _ ?_; clear V K0; simp only [put, app, aa, af, zE, zS, D])
    refine aj ?_
    refine hK32 _ ?_; clear hK32; refine ae [1, 2, 3, 8, 9, 10, 11, 12, 13, 32] ?_; simp only [Y, lkp, zE, reduceCtorEq, E, Z, D]
    refine aI ?_
    refine ⟨by first | exact .inl rfl | exact .inr rfl, _, rfl, _, [_], [_], rfl, ?_, ?_, ?_⟩
    · rw [hres.1]; rfl
    · simp only [fz1, fzC, List.map_cons, List.map_nil, Y, lkp, zE, reduceCtorEq, E, hres.1, List.map_append, if_true] <;> rfl
    · rw [hres.2]; rfl
end Go.Proofs.Ytdkgcbhbpdbmnaa
namespace Go.Proofs.Ytdkgcbhbpdbmnaa
open Go Go.AV
open Nat renaming reduceEqDiff → E, reduceAdd → D, reduceLeDiff → J, reduceLT → U, reduceMul → O, reduceSub → S
open List renaming set_cons_zero → aq, set_cons_succ → am
set_option maxRecDepth 100000 in
set_option maxHeartbeats 1500000 in
theorem gv (n f g : Nat) (cf cg : List Cap) (A : STP) (G : PP → Bool) (p : PP) (n1 n2 : Nat) (N : Int) (hN : N = (n : Int)) (hcf : cf.all f0 = true) (hcg : cg.all f0 = true) (hb : n1 * n2 ≤ 100000) (hb1 : n1 ≤ 100000) (hb2 : n2 ≤ 100000) (hn : n ≤ 1024) (h0 : inR n1 n2 p) (hA : ∀ q, inR n1 n2 q → ∀ x, x < n → inR n1 n2 (A q x)) (hf : ∀ q x, inR n1 n2 q → x < n → bJ Try.prog f (.agg [.int .i64 q.1, .int .i64 q.2] :: .one (.int .i64 (x : Int)) :: cf.map ba) (.agg [.int .i64 (A q x).1, .int .i64 (A q x).2])) (hg : ∀ q, inR n1 n2 q → bJ Try.prog g (.agg [.int .i64 q.1, .int .i64 q.2] :: cg.map ba) (.one (.bool (G q)))) : bJ Try.prog 58 [.agg [.int .i64 p.1, .int .i64 p.2], .one (.int .i64 N), .one (.fn f cf), .one (.fn g cg)] (.tup [(dBD A G n (bv A n (n1 * n2) p)).av, .one (.int .i64 (dBE (bv A n (n1 * n2) p)))]) := by
 subst hN
 refine aS Try.func58 rfl (by kernel_rfl) (Nat.le_of_ble_eq_true rfl) (by simp only [List.all_cons, List.all_nil, eG, fI, fE, hcf, hcg, Bool.and_true, Bool.and_self]) fun C hP hN hB => ?_
 replace hN : C.N = 72 := hN
 simp only [Z, D]
 obtain ⟨hdw, hcls⟩ := db hA h0
 have hdl := hdw.le
 refine ab fun K1 hK1 => ?_
 refine ai hP hN rfl ?_
 iterate 3 (refine ad rfl fun K0 V => ?_; simp only [zE, op1, ev, lkp, ah, ag, c0, au, bQ, reduceCtorEq, E, D, J, U, O, S, Try.ea81, Try.sa81, Try.st25, Try.td25, Try.td29, Try.td81, Dfa.av, List.length_map, List.length_append, List.length_cons, List.length_nil, bB.intsAC, Option.map_some, AV.valOf, bZ, List.length_range]; (repeat refine And.intro (by first | omega | assumption | exact rfl) ?_); (first | refine V _ ?_ | refine Or.inl (V _ ?_)); clear V K0; simp only [put, app, aa, af, zE, zS, D])
 refine aj ?_
 refine hK1 _ ?_; clear hK1; refine ae [0, 1, 2, 3, 4, 8, 9] ?_; simp only [Y, lkp, zE, reduceCtorEq, E, Z, D]
 refine ab fun K2 hK2 => ?_
 refine ai hP hN rfl ?_
 iterate 3 (refine ad rfl fun K0 V => ?_; simp only [zE, op1, ev, lkp, ah, ag, az, Nat.mul_one, ax, ay, acs, Ty.dflt, zG, ao, reduceCtorEq, E, D, J, U, O, S, Try.ea81, Try.sa81, Try.td3, Try.td81, Try.td82, Dfa.av, List.length_map, List.length_append, List.length_cons, List.length_nil, bB.intsAC, Option.map_some, AV.valOf, bZ, List.length_range]; (repeat refine And.intro (by first | omega | assumption | exact rfl) ?_); refine V _ ?_; clear V K0; simp only [put, app, aa, af, zE, zS, D])
 refine ad rfl fun K0 V => ?_
 refine aW (h := gM n f 81 cf [] A (fun _ => false) p n1 n2 (n : Int) rfl hcf rfl hb hb1 hb2 hn h0 hA hf (fun q _ => pc q) _) rfl rfl (by first | exact rfl | (simp only [ev, Y, lkp, zE, reduceCtorEq, E, Z, D]; exact rfl)) (by simp only [zE, zG, op1, ev, lkp, ah, ag, au, acs, ba, mv1, mvC, Ty.dflt, reduceCtorEq, E, D, J, U, O, S, Dfa.av, List.length_map, List.length_append, List.length_cons, List.length_nil, bB.intsAC, Option.map_some, AV.valOf, bZ, List.length_range]) ?_
 refine V _ ?_; clear V K0; simp only [put, app, aa, af, zE, zS, D]
 iterate 7 (refine ad rfl fun K0 V => ?_; simp only [zE, op1, ev, lkp, ah, ag, bI, reduceCtorEq, E, D, J, U, O, S, Try.el83, Try.mk84, Try.td1, Try.td2, Try.td4, Try.td83, Dfa.av, List.length_map, List.length_append, List.length_cons, List.length_nil, bB.intsAC, Option.map_some, AV.valOf, bZ, List.length_range]; refine V _ ?_; clear V K0; simp only [put, app, aa, af, zE, zS, D])
 refine aj ?_
 refine hK2 _ ?_; clear hK2; refine ae [0, 1, 2, 3, 4, 8, 9, 10, 11] ?_; simp only [Y, lkp, zE, reduceCtorEq, E, Z, D]
 refine ab fun K3 hK3 => ?_
 refine ab fun K4 hK4 => ?_
 rw [(pM (bv A n (n1 * n2) p)).1]
 refine ai hP hN rfl ?_
 iterate 3 (refine ad rfl fun K0 V => ?_; simp only [zE, op1, ev, lkp, ah, ag, aH, bu, bb, aY, aZ, br, Nat.div_one, aM, b0, Ty.size, aL, dite_true, aE, aC, aD, ar, aB, aN, reduceCtorEq, E, D, J, U, O, S, Try.el83, Try.td3, Try.td4, Try.td83, Dfa.av, List.length_map, List.length_append, List.length_cons, List.length_nil, bB.intsAC, Option.map_some, AV.valOf, bZ, List.length_range]; (repeat refine And.intro (by first | omega | assumption | exact rfl) ?_); (first | refine V _ ?_ | refine Or.inl (V _ ?_)); clear V K0; simp only [put, app, aa, af, zE, zS, D])
 refine aj ?_
 refine hK4 _ ?_; clear hK4; refine ae [0, 1, 2, 3, 4, 8, 9, 10, 11, 28] ?_; simp only [Y, lkp, zE, reduceCtorEq, E, Z, D]
 refine aF (by simp only [ev, Y, lkp, zE, reduceCtorEq, E, Z, D]; exact rfl) (fun hc5 => ?_) (fun hc5 => ?_)
 ·(try simp only [zB, reduceCtorEq] at hc5)
  have hbig : 128 < (bv A n (n1 * n2) p).length := by omega
  refine ab fun K6 hK6 => ?_
  refine ai hP hN rfl ?_
  iterate 3 (refine ad rfl fun K0 V => ?_; simp only [zE, op1, ev, lkp, ah, ag, bW, bh, aQ, au, bj, Nat.mul_one, aL, acs, Ty.size, Ty.dflt, zG, reduceCtorEq, E, D, J, U, O, S, Try.st25, Try.td25, Try.td29, Dfa.av, List.length_map, List.length_append, List.length_cons, List.length_nil, bB.intsAC, Option.map_some, AV.valOf, bZ, List.length_range]; (repeat refine And.intro (by first | omega | assumption | exact rfl) ?_); (first | refine V _ ?_ | refine Or.inl (V _ ?_)); clear V K0; simp only [put, app, aa, af, zE, zS, D])
  refine aj ?_
  refine hK6 _ ?_; clear hK6; refine ae [0, 1, 2, 3, 4, 8, 9, 10, 11, 28] ?_; simp only [Y, lkp, zE, reduceCtorEq, E, Z, D]
  refine aI ?_
  refine ⟨by first | exact .inl rfl | exact .inr rfl, _, rfl, ?_⟩; simp only [fzV, fz1, fzC, List.map_cons, List.map_nil, Y, lkp, zE, reduceCtorEq, E, Z, D, Dfa.av, List.length_map, List.length_append, List.length_cons, List.length_nil, bB.intsAC, Option.map_some, AV.valOf, bZ, List.length_range]
  first
  | (have e1 : dBD A G n (bv A n (n1 * n2) p) = dr := if_pos hbig
     have e2 : dBE (bv A n (n1 * n2) p) = 11 := if_pos hbig
     rw [e1, e2]; exact bz ⟨bU ⟨.refl _, .refl _, aT rfl, aT rfl, trivial⟩, aR (.refl _), trivial⟩)
  | (have e1 : dBD A G n (bv A n (n1 * n2) p) = dBn A G n (bv A n (n1 * n2) p) := if_neg hsm
     have e2 : dBE (bv A n (n1 * n2) p) = 0 := if_neg hsm
     rw [e1, e2]; exact VLE.of_eq rfl)
 ·(try simp only [zB, reduceCtorEq] at hc5)
  have hsm : ¬ 128 < (bv A n (n1 * n2) p).length := by omega
  refine aK ?_
  refine hK3 _ ?_; clear hK3; refine ae [0, 1, 2, 3, 4, 8, 9, 10, 11, 28] ?_; simp only [Y, lkp, zE, reduceCtorEq, E, Z, D]
  refine ab fun K7 hK7 => ?_
  refine ai hP hN rfl ?_
  iterate 4 (refine ad rfl fun K0 V => ?_; simp only [zE, op1, ev, lkp, ah, ag, bW, bh, aQ, au, bQ, bj, Nat.mul_one, aL, acs, Ty.size, Ty.dflt, zG, reduceCtorEq, E, D, J, U, O, S, Try.st25, Try.td25, Try.td3, Dfa.av, List.length_map, List.length_append, List.length_cons, List.length_nil, bB.intsAC, Option.map_some, AV.valOf, bZ, List.length_range]; (repeat refine And.intro (by first | omega | assumption | exact rfl) ?_); (first | refine V _ ?_ | refine Or.inl (V _ ?_)); clear V K0; simp only [put, app, aa, af, zE, zS, D])
  refine aj ?_
  refine hK7 _ ?_; clear hK7; refine ae [0, 1, 2, 3, 4, 8, 9, 10, 11, 13, 28] ?_; simp only [Y, lkp, zE, reduceCtorEq, E, Z, D]
  refine ab fun K8 hK8 => ?_
  refine ab fun K9 hK9 => ?_
  refine ai hP hN rfl ?_
  iterate 3 (refine ad rfl fun K0 V => ?_; simp only [zE, op1, ev, lkp, ah, ag, aH, bu, bb, aY, aZ, br, Nat.div_one, aM, b0, Ty.size, aL, dite_true, reduceCtorEq, E, D, J, U, O, S, Try.el83, Try.td3, Try.td83, Dfa.av, List.length_map, List.length_append, List.length_cons, List.length_nil, bB.intsAC, Option.map_some, AV.valOf, bZ, List.length_range]; (repeat refine And.intro (by first | omega | assumption | exact rfl) ?_); (first | refine V _ ?_ | refine Or.inl (V _ ?_)); clear V K0; simp only [put, app, aa, af, zE, zS, D])
  refine aj ?_
  refine hK9 _ ?_; clear hK9; refine ae [0, 1, 2, 3, 4, 8, 9, 10, 11, 13, 28, 32, 33, 34] ?_; simp only [Y, lkp, zE, reduceCtorEq, E, Z, D]
  refine aP ?_
  refine cY 3 2 (.list (.int .i64)) 26 (by decide) rfl rfl ?_; simp only [zS, List.length_cons, List.length_nil, List.cons_append, List.nil_append, Nat.zero_add, D]
  refine cY 3 3 (.bool) 4 (by decide) rfl rfl ?_; simp only [zS, List.length_cons, List.length_nil, List.cons_append, List.nil_append, Nat.zero_add, D]
  refine bG (fun n10 s10 => ∃ (k : Nat) (v : Nat), (k ≤ (bv A n (n1 * n2) p).length) ∧ n10 = (bv A n (n1 * n2) p).length - k ∧ s10 = { env := [(1, .one (.int .i64 (n : Int))), (2, .one (.fn f cf)), (3, .one (.fn g cg)), (8, .one (.ptr 1 0 0 0)), (9, .one (.int .i64 0)), (11, .one (.mpv 2)), (13, .one (.ptr 3 0 0 0)), (32, .one (.list (.pair (.pair (.int .i64) (.pair (.int .i64) .unit)) (.pair (.list (.int .i64)) .unit)) (List.map fX (bv A n (n1 * n2) p)))), (33, .one (.int .i64 ((bv A n (n1 * n2) p).length : Int))), (34, .one (.int .i64 (k : Int)))], L := [.vars 81 [.int .i64 p.1, .int .i64 p.2], .vars 25 [.int .i64 0, .int .i64 0, .nils, .nils], .mp 84 .int (mpE (bv A n (n1 * n2) p)), .vars 25 [.int .i64 (n : Int), .int .i64 0, .row 4 v, .row 5 v], .row (.list (.int .i64)) 26 v ((List.range k).map fun i => dRw A n (bv A n (n1 * n2) p) i n), .row .bool 4 v (((bv A n (n1 * n2) p).take k).map fun e => G e.1)] }) ?_ ?_
  ·exact ⟨_, _, aO [1, 2, 3, 8, 9, 11, 13, 32, 33, 34], 0, 0, Nat.zero_le _, rfl, rfl⟩
  ·rintro n10 s10 ⟨k, v, hk, rfl, rfl⟩
   refine ab fun K11 hK11 => ?_
   refine ai hP hN rfl ?_
   (refine ad rfl fun K0 V => ?_; simp only [zE, op1, ev, lkp, ah, ag, aE, aC, aD, ar, aB, aN, reduceCtorEq, E, D, J, U, O, S, Try.td3, Dfa.av, List.length_map, List.length_append, List.length_cons, List.length_nil, bB.intsAC, Option.map_some, AV.valOf, bZ, List.length_range]; (repeat refine And.intro (by first | omega | assumption | exact rfl) ?_); refine V _ ?_; clear V K0; simp only [put, app, aa, af, zE, zS, D])
   refine aj ?_
   refine hK11 _ ?_; clear hK11; refine ae [1, 2, 3, 8, 9, 11, 13, 32, 33, 34, 35] ?_; simp only [Y, lkp, zE, reduceCtorEq, E, Z, D]
   refine ab fun K12 hK12 => ?_
   refine aF (by simp only [ev, Y, lkp, zE, reduceCtorEq, E, Z, D]; exact rfl) (fun hc13 => ?_) (fun hc13 => ?_)
   ·(try simp only [zB, reduceCtorEq] at hc13)
    refine aK ?_
    refine hK12 _ ?_; clear hK12; refine ae [1, 2, 3, 8, 9, 11, 13, 32, 33, 34, 35] ?_; simp only [Y, lkp, zE, reduceCtorEq, E, Z, D]
    refine ab fun K14 hK14 => ?_
    refine aP ?_
    refine ab fun K15 hK15 => ?_
    have hkl : k < (bv A n (n1 * n2) p).length := by omega
    have hre := hdw.rg _ (dx hkl)
    have hgi : gt (.pair (.pair (.int .i64) (.pair (.int .i64) .unit)) (.pair (.list (.int .i64)) .unit)) (List.map fX (bv A n (n1 * n2) p)) (k : Int) = ((((bv A n (n1 * n2) p).getD k w30).1.1, (((bv A n (n1 * n2) p).getD k w30).1.2, ())), (((bv A n (n1 * n2) p).getD k w30).2, ())) := iD hkl _
    refine ai hP hN rfl ?_
    iterate 4 (refine ad rfl fun K0 V => ?_; simp only [zE, op1, ev, lkp, ah, ag, aJ, zG, Ty.dflt, Ty.size, Nat.mul_one, ne_eq, not_false_eq_true, Int.natCast_one, Int.mul_one, az, ax, ay, acs, ao, bQ, bj, au, aQ, aL, reduceCtorEq, E, D, J, U, O, S, Try.el83, Try.st110, Try.td110, Try.td83, Dfa.av, List.length_map, List.length_append, List.length_cons, List.length_nil, bB.intsAC, Option.map_some, AV.valOf, bZ, List.length_range, hgi]; (repeat refine And.intro (by first | omega | assumption | exact rfl) ?_); (first | refine V _ ?_ | refine Or.inl (V _ ?_)); clear V K0; simp only [put, app, aa, af, zE, zS, D])
    refine aj ?_
    refine hK15 _ ?_; clear hK15; refine ae [1, 2, 3, 8, 9, 11, 13, 15, 32, 33, 34, 35] ?_; simp only [Y, lkp, zE, reduceCtorEq, E, Z, D]
    refine ab fun K16 hK16 => ?_
    refine ai hP hN rfl ?_
    iterate 3 (refine ad rfl fun K0 V => ?_; simp only [zE, op1, ev, lkp, ah, ag, cD, aL, Ty.size, Ty.dflt, reduceCtorEq, E, D, J, U, O, S, Try.el26, Try.td26, Try.td3, Dfa.av, List.length_map, List.length_append, List.length_cons, List.length_nil, bB.intsAC, Option.map_some, AV.valOf, bZ, List.length_range]; (repeat refine And.intro (by first | omega | assumption | exact rfl) ?_); (first | refine V _ ?_ | refine Or.inl (V _ ?_)); clear V K0; simp only [put, app, aa, af, zE, zS, D])
    refine aj ?_
    refine hK16 _ ?_; clear hK16; refine ae [1, 2, 3, 8, 9, 11, 13, 15, 16, 32, 33, 34, 35] ?_; simp only [Y, lkp, zE, reduceCtorEq, E, Z, D]
    refine ab fun K17 hK17 => ?_
    refine ab fun K18 hK18 => ?_
    refine ai hP hN rfl ?_
    iterate 2 (refine ad rfl fun K0 V => ?_; simp only [zE, op1, ev, lkp, ah, ag, ev, reduceCtorEq, E, D, J, U, O, S, Try.td3, Dfa.av, List.length_map, List.length_append, List.length_cons, List.length_nil, bB.intsAC, Option.map_some, AV.valOf, bZ, List.length_range]; refine V _ ?_; clear V K0; simp only [put, app, aa, af, zE, zS, D])
    refine aj ?_
    refine hK18 _ ?_; clear hK18; refine ae [1, 2, 3, 8, 9, 11, 13, 15, 16, 32, 33, 34, 35, 40, 41] ?_; simp only [Y, lkp, zE, reduceCtorEq, E, Z, D]
    refine aP ?_
    refine bG (fun n19 s19 => ∃ (x : Nat) (w : Nat), (x ≤ n) ∧ n19 = n - x ∧ s19 = { env := [(1, .one (.int .i64 (n : Int))), (2, .one (.fn f cf)), (3, .one (.fn g cg)), (8, .one (.ptr 1 0 0 0)), (9, .one (.int .i64 0)), (11, .one (.mpv 2)), (13, .one (.ptr 3 0 0 0)), (15, .one (.ptr 6 0 0 0)), (16, .one (.row 7 w)), (32, .one (.list (.pair (.pair (.int .i64) (.pair (.int .i64) .unit)) (.pair (.list (.int .i64)) .unit)) (List.map fX (bv A n (n1 * n2) p)))), (33, .one (.int .i64 ((bv A n (n1 * n2) p).length : Int))), (34, .one (.int .i64 (k : Int))), (40, .one (.int .i64 (n : Int))), (41, .one (.int .i64 (x : Int)))], L := [.vars 81 [.int .i64 p.1, .int .i64 p.2], .vars 25 [.int .i64 0, .int .i64 0, .nils, .nils], .mp 84 .int (mpE (bv A n (n1 * n2) p)), .vars 25 [.int .i64 (n : Int), .int .i64 0, .row 4 v, .row 5 v], .row (.list (.int .i64)) 26 v ((List.range k).map fun i => dRw A n (bv A n (n1 * n2) p) i n), .row .bool 4 v (((bv A n (n1 * n2) p).take k).map fun e => G e.1), .vars 110 [.int .i64 ((bv A n (n1 * n2) p).getD k w30).1.1, .int .i64 ((bv A n (n1 * n2) p).getD k w30).1.2, .list (.int .i64) ((bv A n (n1 * n2) p).getD k w30).2], .row (.int .i64) 3 w (dRw A n (bv A n (n1 * n2) p) k x)] }) ?_ ?_
    ·exact ⟨_, _, aO [1, 2, 3, 8, 9, 11, 13, 15, 16, 32, 33, 34, 40, 41], 0, 0, Nat.zero_le _, rfl, rfl⟩
    ·rintro n19 s19 ⟨x, w, hx, rfl, rfl⟩
     refine ab fun K20 hK20 => ?_
     refine ai hP hN rfl ?_
     (refine ad rfl fun K0 V => ?_; simp only [zE, op1, ev, lkp, ah, ag, aE, aC, aD, ar, aB, aN, reduceCtorEq, E, D, J, U, O, S, Try.td3, Try.td4, Dfa.av, List.length_map, List.length_append, List.length_cons, List.length_nil, bB.intsAC, Option.map_some, AV.valOf, bZ, List.length_range]; (repeat refine And.intro (by first | omega | assumption | exact rfl) ?_); refine V _ ?_; clear V K0; simp only [put, app, aa, af, zE, zS, D])
     refine aj ?_
     refine hK20 _ ?_; clear hK20; refine ae [1, 2, 3, 8, 9, 11, 13, 15, 16, 32, 33, 34, 40, 41, 42] ?_; simp only [Y, lkp, zE, reduceCtorEq, E, Z, D]
     refine ab fun K21 hK21 => ?_
     refine aF (by simp only [ev, Y, lkp, zE, reduceCtorEq, E, Z, D]; exact rfl) (fun hc22 => ?_) (fun hc22 => ?_)
     ·(try simp only [zB, reduceCtorEq] at hc22)
      refine aK ?_
      refine hK21 _ ?_; clear hK21; refine ae [1, 2, 3, 8, 9, 11, 13, 15, 16, 32, 33, 34, 40, 41, 42] ?_; simp only [Y, lkp, zE, reduceCtorEq, E, Z, D]
      refine ab fun K23 hK23 => ?_
      refine aP ?_
      refine ab fun K24 hK24 => ?_
      refine ai hP hN rfl ?_
      iterate 2 (refine ad rfl fun K0 V => ?_; simp only [zE, op1, ev, lkp, ah, ag, ev, reduceCtorEq, E, D, J, U, O, S, Try.td3, Dfa.av, List.length_map, List.length_append, List.length_cons, List.length_nil, bB.intsAC, Option.map_some, AV.valOf, bZ, List.length_range]; refine V _ ?_; clear V K0; simp only [put, app, aa, af, zE, zS, D])
      refine aj ?_
      refine hK24 _ ?_; clear hK24; refine ae [1, 2, 3, 8, 9, 11, 13, 15, 16, 17, 32, 33, 34, 40, 41, 42] ?_; simp only [Y, lkp, zE, reduceCtorEq, E, Z, D]
      have hq9 := hA _ hre x (by omega)
      have hkv := lV hq9 hb1 hb2
      have hlk : cC (mpE (bv A n (n1 * n2) p)) (.arr [(A ((bv A n (n1 * n2) p).getD k w30).1 x).1, (A ((bv A n (n1 * n2) p).getD k w30).1 x).2]) = some (pos ((bv A n (n1 * n2) p).map Prod.fst) (A ((bv A n (n1 * n2) p).getD k w30).1 x) : Int) := kd hdw.nd (hcls k hkl x (by omega))
      refine ai hP hN rfl ?_
      iterate 6 (refine ad rfl fun K0 V => ?_; simp only [zE, op1, ev, lkp, ah, ag, aw, az, Nat.mul_one, ax, ay, acs, Ty.dflt, zG, ao, reduceCtorEq, E, D, J, U, O, S, Try.ea81, Try.el26, Try.mk84, Try.sa81, Try.st110, Try.td110, Try.td26, Try.td3, Try.td81, Try.td82, Dfa.av, List.length_map, List.length_append, List.length_cons, List.length_nil, bB.intsAC, Option.map_some, AV.valOf, bZ, List.length_range, hlk, Option.getD_some]; (repeat refine And.intro (by first | omega | assumption | exact rfl) ?_); refine V _ ?_; clear V K0; simp only [put, app, aa, af, zE, zS, D])
      refine ad rfl fun K0 V => ?_
      refine aW (h := aG (hf ((bv A n (n1 * n2) p).getD k w30).1 x hre (by omega))) rfl rfl (by first | exact rfl | (simp only [ev, Y, lkp, zE, reduceCtorEq, E, Z, D]; exact rfl)) (by simp only [zE, zG, op1, ev, lkp, ah, ag, au, acs, ba, mv1, mvC, Ty.dflt, reduceCtorEq, E, D, J, U, O, S, Dfa.av, List.length_map, List.length_append, List.length_cons, List.length_nil, bB.intsAC, Option.map_some, AV.valOf, bZ, List.length_range, hlk, Option.getD_some]) ?_
      refine V _ ?_; clear V K0; simp only [put, app, aa, af, zE, zS, D]
      iterate 4 (refine ad rfl fun K0 V => ?_; simp only [zE, op1, ev, lkp, ah, ag, gj, bB, VK.ac, bn, bh, ch, rep, aL, aQ, au, Ty.size, aH, bu, bb, aY, aZ, br, Nat.div_one, aM, b0, dite_true, reduceCtorEq, E, D, J, U, O, S, Try.el26, Try.mk84, Try.td1, Try.td26, Try.td3, Dfa.av, List.length_map, List.length_append, List.length_cons, List.length_nil, bB.intsAC, Option.map_some, AV.valOf, bZ, List.length_range, hlk, Option.getD_some]; (repeat refine And.intro (by first | omega | assumption | exact rfl) ?_); (first | refine V _ ?_ | refine Or.inl (V _ ?_)); clear V K0; simp only [put, app, aa, af, zE, zS, D])
      refine aj ?_
      refine hK23 _ ?_; clear hK23; refine ae [1, 2, 3, 8, 9, 11, 13, 15, 16, 17, 32, 33, 34, 40, 41, 42] ?_; simp only [Y, lkp, zE, reduceCtorEq, E, Z, D]
      refine ai hP hN rfl ?_
      iterate 2 (refine ad rfl fun K0 V => ?_; simp only [zE, op1, ev, lkp, ah, ag, aE, aC, aD, ar, aB, aN, reduceCtorEq, E, D, J, U, O, S, Try.td3, Dfa.av, List.length_map, List.length_append, List.length_cons, List.length_nil, bB.intsAC, Option.map_some, AV.valOf, bZ, List.length_range]; (repeat refine And.intro (by first | omega | assumption | exact rfl) ?_); refine V _ ?_; clear V K0; simp only [put, app, aa, af, zE, zS, D])
      refine aj ?_
      refine ⟨_, _, ?_, aO [1, 2, 3, 8, 9, 11, 13, 15, 16, 32, 33, 34, 40, 41], x + 1, w + 1, by omega, rfl, ?_⟩
      · omega
      · rw [pw]; rfl
     ·(try simp only [zB, reduceCtorEq] at hc22)
      refine bD ?_
      refine hK17 _ ?_; clear hK17; refine ae [1, 2, 3, 8, 9, 11, 13, 15, 16, 32, 33, 34, 40, 41, 42] ?_; simp only [Y, lkp, zE, reduceCtorEq, E, Z, D]
      refine ab fun K25 hK25 => ?_
      refine d9 7 rfl ?_; simp only [List.map_cons, List.map_nil, zS, E, and_self, and_true, true_and, and_false, false_and, if_true, if_false, eq_self, reduceCtorEq, Nat.one_ne_zero, Nat.zero_ne_one]
      have hxn : n = x := by omega
      subst hxn
      refine ai hP hN rfl ?_
      iterate 7 (refine ad rfl fun K0 V => ?_; simp only [zE, op1, ev, lkp, ah, ag, aw, az, Nat.mul_one, ax, ay, acs, Ty.dflt, zG, ao, bn, bh, ch, rep, aL, aQ, au, Ty.size, aH, bu, bb, aY, aZ, br, Nat.div_one, aM, b0, dite_true, bj, reduceCtorEq, E, D, J, U, O, S, Try.el22, Try.el26, Try.st25, Try.td1, Try.td2, Try.td22, Try.td25, Try.td26, Dfa.av, List.length_map, List.length_append, List.length_cons, List.length_nil, bB.intsAC, Option.map_some, AV.valOf, bZ, List.length_range]; (repeat refine And.intro (by first | omega | assumption | exact rfl) ?_); (first | refine V _ ?_ | refine Or.inl (V _ ?_)); clear V K0; simp only [put, app, aa, af, zE, zS, D])
      refine aj ?_
      refine hK25 _ ?_; clear hK25; refine ae [1, 2, 3, 8, 9, 11, 13, 15, 16, 32, 33, 34, 40, 41, 42] ?_; simp only [Y, lkp, zE, reduceCtorEq, E, Z, D]
      refine bY hP hN Try.mixed rfl ?_
      iterate 5 (refine ad rfl fun K0 V => ?_; simp only [zE, op1, ev, lkp, ah, ag, aw, az, Nat.mul_one, ax, ay, acs, Ty.dflt, zG, ao, reduceCtorEq, E, D, J, U, O, S, Try.ea81, Try.el23, Try.sa81, Try.st110, Try.st25, Try.td110, Try.td23, Try.td25, Try.td3, Try.td81, Try.td87, Dfa.av, List.length_map, List.length_append, List.length_cons, List.length_nil, bB.intsAC, Option.map_some, AV.valOf, bZ, List.length_range, List.length_take]; (repeat refine And.intro (by first | omega | assumption | exact rfl) ?_); refine V _ ?_; clear V K0; simp only [put, app, aa, af, zE, zS, D])
      refine ad rfl fun K0 V => ?_
      refine aW (h := aG (hg ((bv A n (n1 * n2) p).getD k w30).1 hre)) rfl rfl (by first | exact rfl | (simp only [ev, Y, lkp, zE, reduceCtorEq, E, Z, D]; exact rfl)) (by simp only [zE, zG, op1, ev, lkp, ah, ag, au, acs, ba, mv1, mvC, Ty.dflt, reduceCtorEq, E, D, J, U, O, S, Dfa.av, List.length_map, List.length_append, List.length_cons, List.length_nil, bB.intsAC, Option.map_some, AV.valOf, bZ, List.length_range, List.length_take]) ?_
      refine V _ ?_; clear V K0; simp only [put, app, aa, af, zE, zS, D]
      iterate 4 (refine ad rfl fun K0 V => ?_; simp only [zE, op1, ev, lkp, ah, ag, bn, bh, ch, rep, aL, aQ, au, Ty.size, aH, bu, bb, aY, aZ, br, Nat.div_one, aM, b0, dite_true, aw, bj, Nat.mul_one, acs, Ty.dflt, zG, reduceCtorEq, E, D, J, U, O, S, Try.el23, Try.st25, Try.td1, Try.td23, Try.td25, Try.td3, Dfa.av, List.length_map, List.length_append, List.length_cons, List.length_nil, bB.intsAC, Option.map_some, AV.valOf, bZ, List.length_range, List.length_take]; (repeat refine And.intro (by first | omega | assumption | exact rfl) ?_); (first | refine V _ ?_ | refine Or.inl (V _ ?_)); clear V K0; simp only [put, app, aa, af, zE, zS, D])
      refine aj ?_
      refine ⟨by kernel_rfl, ?_⟩
      refine hK14 _ ?_; clear hK14; refine ae [1, 2, 3, 8, 9, 11, 13, 15, 16, 32, 33, 34, 40, 41, 42] ?_; simp only [Y, lkp, zE, reduceCtorEq, E, Z, D]
      refine ae [1, 2, 3, 8, 9, 11, 13, 32, 33, 34] ?_; simp only [Y, lkp, zE, reduceCtorEq, E]
      refine fO (L1 := [_, _, _, _, _, _, _]) rfl hB (by simp only [List.all_cons, List.all_nil, fJ, gZ, d8 hcf, d8 hcg]; rfl) rfl ?_
      refine fO (L1 := [_, _, _, _, _, _]) rfl hB (by simp only [List.all_cons, List.all_nil, fJ, gZ, d8 hcf, d8 hcg]; rfl) rfl ?_
      refine ai hP hN rfl ?_
      iterate 2 (refine ad rfl fun K0 V => ?_; simp only [zE, op1, ev, lkp, ah, ag, aE, aC, aD, ar, aB, aN, reduceCtorEq, E, D, J, U, O, S, Try.td3, Dfa.av, List.length_map, List.length_append, List.length_cons, List.length_nil, bB.intsAC, Option.map_some, AV.valOf, bZ, List.length_range]; (repeat refine And.intro (by first | omega | assumption | exact rfl) ?_); refine V _ ?_; clear V K0; simp only [put, app, aa, af, zE, zS, D])
      refine aj ?_
      refine ⟨_, _, ?_, aO [1, 2, 3, 8, 9, 11, 13, 32, 33, 34], k + 1, v + 1, by omega, rfl, ?_⟩
      · omega
      · rw [nB, dK _ w30 hkl]; rfl
   ·(try simp only [zB, reduceCtorEq] at hc13)
    refine bD ?_
    refine hK8 _ ?_; clear hK8; refine ae [1, 2, 3, 8, 9, 11, 13, 32, 33, 34, 35] ?_; simp only [Y, lkp, zE, reduceCtorEq, E, Z, D]
    refine ab fun K26 hK26 => ?_
    refine cB 4 3 rfl rfl ?_; simp only [List.map_cons, List.map_nil, frC, zS, E, and_self, and_true, true_and, and_false, false_and, if_true, if_false, eq_self, reduceCtorEq, Nat.one_ne_zero, Nat.zero_ne_one]
    refine cB 5 3 rfl rfl ?_; simp only [List.map_cons, List.map_nil, frC, zS, E, and_self, and_true, true_and, and_false, false_and, if_true, if_false, eq_self, reduceCtorEq, Nat.one_ne_zero, Nat.zero_ne_one]
    have hke : k = (bv A n (n1 * n2) p).length := by omega
    rw [hke, List.take_length]
    refine ai hP hN rfl ?_
    iterate 3 (refine ad rfl fun K0 V => ?_; simp only [zE, op1, ev, lkp, ah, ag, az, Nat.mul_one, ax, ay, acs, Ty.dflt, zG, ao, bj, au, aQ, aL, Ty.size, reduceCtorEq, E, D, J, U, O, S, Try.st25, Try.td25, Try.td29, Dfa.av, List.length_map, List.length_append, List.length_cons, List.length_nil, bB.intsAC, Option.map_some, AV.valOf, bZ, List.length_range]; (repeat refine And.intro (by first | omega | assumption | exact rfl) ?_); refine V _ ?_; clear V K0; simp only [put, app, aa, af, zE, zS, D])
    refine aj ?_
    refine hK26 _ ?_; clear hK26; refine ae [1, 2, 3, 8, 9, 11, 13, 32, 33, 34, 35] ?_; simp only [Y, lkp, zE, reduceCtorEq, E, Z, D]
    refine aI ?_
    refine ⟨by first | exact .inl rfl | exact .inr rfl, _, rfl, ?_⟩; simp only [fzV, fz1, fzC, List.map_cons, List.map_nil, Y, lkp, zE, reduceCtorEq, E, Z, D, Dfa.av, List.length_map, List.length_append, List.length_cons, List.length_nil, bB.intsAC, Option.map_some, AV.valOf, bZ, List.length_range]
    first
    | (have e1 : dBD A G n (bv A n (n1 * n2) p) = dr := if_pos hbig
       have e2 : dBE (bv A n (n1 * n2) p) = 11 := if_pos hbig
       rw [e1, e2]; exact bz ⟨bU ⟨.refl _, .refl _, aT rfl, aT rfl, trivial⟩, aR (.refl _), trivial⟩)
    | (have e1 : dBD A G n (bv A n (n1 * n2) p) = dBn A G n (bv A n (n1 * n2) p) := if_neg hsm
       have e2 : dBE (bv A n (n1 * n2) p) = 0 := if_neg hsm
       rw [e1, e2]; exact VLE.of_eq rfl)
end Go.Proofs.Ytdkgcbhbpdbmnaa
namespace Go.Proofs.Ytdkgcbhbpdbmnaa
open Go Go.AV
open Nat renaming reduceEqDiff → E, reduceAdd → D, reduceLeDiff → J, reduceLT → U, reduceMul → O, reduceSub → S
open List renaming set_cons_zero → aq, set_cons_succ → am
set_option maxRecDepth 100000 in
theorem sa (a b : Dfa) (q : PP) (x : Nat) (ha : DOK a) (hb : DOK b) (hi : a.inp = b.inp) (hq : inR a.nx.length b.nx.length q) (hx : (x : Int) < a.inp) : bJ Try.prog 55 [.agg [.int .i64 q.1, .int .i64 q.2], .one (.int .i64 (x : Int)), .one (.pat (.pair (.int .i64) (.pair (.int .i64) (.pair (.list (.list (.int .i64))) (.pair (.list .bool) .unit)))) (a.inp, (a.st, (a.nx, (a.acc, ())))) 0), .one (.pat (.pair (.int .i64) (.pair (.int .i64) (.pair (.list (.list (.int .i64))) (.pair (.list .bool) .unit)))) (b.inp, (b.st, (b.nx, (b.acc, ())))) 0)] (.agg [.int .i64 (eH a b q x).1, .int .i64 (eH a b q x).2]) := by
 have hra := ha.rli hq.1; have hsa : ((a.nx.getD q.1.toNat []).length : Int) = a.inp := hra; have hta := hq.1; have hua := ha.al
 have hrb := hb.rli hq.2; have hsb : ((b.nx.getD q.2.toNat []).length : Int) = b.inp := hrb; have htb := hq.2; have hub := hb.al
 refine aS Try.func55 rfl (by kernel_rfl) (Nat.le_of_ble_eq_true rfl) rfl fun C hP hN hB => ?_
 replace hN : C.N = 26 := hN
 simp only [Z, D]
 refine ab fun K1 hK1 => ?_
 refine ai hP hN rfl ?_
 iterate 2 (refine ad rfl fun K0 V => ?_; simp only [zE, op1, ev, lkp, ah, ag, c0, au, bQ, reduceCtorEq, E, D, J, U, O, S, Try.ea81, Try.sa81, Try.td81]; (repeat refine And.intro (by first | omega | assumption | exact rfl) ?_); (first | refine V _ ?_ | refine Or.inl (V _ ?_)); clear V K0; simp only [put, app, aa, af, zE, zS, D])
 refine aj ?_
 refine hK1 _ ?_; clear hK1; refine ae [0, 1, 2, 3, 4, 6] ?_; simp only [Y, lkp, zE, reduceCtorEq, E, Z, D]
 refine ab fun K2 hK2 => ?_
 refine bY hP hN Try.mixed rfl ?_
 iterate 20 (refine ad rfl fun K0 V => ?_; simp only [zE, op1, ev, lkp, ah, ag, aw, az, Nat.mul_one, ax, ay, acs, Ty.dflt, zG, ao, aJ, Ty.size, ne_eq, not_false_eq_true, Int.natCast_one, Int.mul_one, bW, bh, aQ, au, bj, aL, reduceCtorEq, E, D, J, U, O, S, Try.ea81, Try.el22, Try.el26, Try.sa81, Try.st25, Try.td2, Try.td22, Try.td25, Try.td26, Try.td3, Try.td81]; (repeat refine And.intro (by first | omega | assumption | exact rfl) ?_); (first | refine V _ ?_ | refine Or.inl (V _ ?_)); clear V K0; simp only [put, app, aa, af, zE, zS, D])
 refine aj ?_
 refine ⟨by kernel_rfl, ?_⟩
 refine hK2 _ ?_; clear hK2; refine ae [0, 1, 2, 3, 4, 6] ?_; simp only [Y, lkp, zE, reduceCtorEq, E, Z, D]
 refine aI ?_
 refine ⟨by first | exact .inl rfl | exact .inr rfl, _, rfl, ?_⟩; simp only [fzV, fz1, fzC, List.map_cons, List.map_nil, Y, lkp, zE, reduceCtorEq, E, Z, D]
 refine VLE.of_eq ?_
 rfl
end Go.Proofs.Ytdkgcbhbpdbmnaa
namespace Go.Proofs.Ytdkgcbhbpdbmnaa
open Go Go.AV
open Nat renaming reduceEqDiff → E, reduceAdd → D, reduceLeDiff → J, reduceLT → U, reduceMul → O, reduceSub → S
open List renaming set_cons_zero → aq, set_cons_succ → am
set_option maxRecDepth 100000 in
theorem rG (op : Int) (x y : Bool) : bJ Try.prog 57 [.one (.int .i64 op), .one (.bool x), .one (.bool y)] (.one (.bool (opB op x y))) := by
 refine aS Try.func57 rfl (by kernel_rfl) (Nat.le_of_ble_eq_true rfl) rfl fun C hP hN hB => ?_
 replace hN : C.N = 30 := hN
 simp only [Z, D]
 refine ab fun K1 hK1 => ?_
 refine ai hP hN rfl ?_
 (refine ad rfl fun K0 V => ?_; simp only [zE, op1, ev, lkp, ah, ag, ev, reduceCtorEq, E, D, J, U, O, S, Try.td4]; refine V _ ?_; clear V K0; simp only [put, app, aa, af, zE, zS, D])
 refine aj ?_
 refine hK1 _ ?_; clear hK1; refine ae [0, 1, 2, 6] ?_; simp only [Y, lkp, zE, reduceCtorEq, E, Z, D]
 refine ab fun K2 hK2 => ?_
 refine ab fun K3 hK3 => ?_
 refine ai hP hN rfl ?_
 (refine ad rfl fun K0 V => ?_; simp only [zE, op1, ev, lkp, ah, ag, ev, reduceCtorEq, E, D, J, U, O, S, Try.td3]; refine V _ ?_; clear V K0; simp only [put, app, aa, af, zE, zS, D])
 refine aj ?_
 refine hK3 _ ?_; clear hK3; refine ae [0, 1, 2, 6, 7] ?_; simp only [Y, lkp, zE, reduceCtorEq, E, Z, D]
 refine aP ?_
 refine ab fun K4 hK4 => ?_
 refine ai hP hN rfl ?_
 iterate 2 (refine ad rfl fun K0 V => ?_; simp only [zE, op1, ev, lkp, ah, ag, aE, aC, aD, ar, aB, aN, reduceCtorEq, E, D, J, U, O, S, Try.td3, Try.td4]; (repeat refine And.intro (by first | omega | assumption | exact rfl) ?_); refine V _ ?_; clear V K0; simp only [put, app, aa, af, zE, zS, D])
 refine aj ?_
 refine hK4 _ ?_; clear hK4; refine ae [0, 1, 2, 6, 7, 8] ?_; simp only [Y, lkp, zE, reduceCtorEq, E, Z, D]
 refine aF (by simp only [ev, Y, lkp, zE, reduceCtorEq, E, Z, D]; exact rfl) (fun hc5 => ?_) (fun hc5 => ?_)
 ·(try simp only [zB, reduceCtorEq] at hc5)
  refine ab fun K6 hK6 => ?_
  refine ai hP hN rfl ?_
  (refine ad rfl fun K0 V => ?_; simp only [zE, op1, ev, lkp, ah, ag, ev, reduceCtorEq, E, D, J, U, O, S, Try.td4]; refine V _ ?_; clear V K0; simp only [put, app, aa, af, zE, zS, D])
  (refine ad rfl fun K0 V => ?_; simp only [zE, op1, ev, lkp, ah, ag, ev, reduceCtorEq, E, D, J, U, O, S, Try.td4]; refine V _ ?_; clear V K0; simp only [put, app, aa, af, zE, zS, D])
  refine' aU (want := true) 1 rfl (m := 11) (by simp only [Y, lkp, zE, reduceCtorEq, E, Z, D]; exact rfl) (by kernel_rfl) rfl rfl rfl rfl rfl (fun hg7 => ?a7) ?b7 ?c7
  case a7 =>
   have hq7 := hg7; (try simp only [zB, reduceCtorEq] at hg7); simp only [List.take_succ_cons, List.take_zero, List.cons_append, List.nil_append]
   (refine aA rfl fun K0 V => ?_; simp only [zE, op1, ev, lkp, ah, ag, ev, reduceCtorEq, E, D, J, U, O, S, Try.td4]; refine V _ ?_; clear V K0; simp only [put, app, aa, af, zE, zS, D])
   (refine ad rfl fun K0 V => ?_; simp only [zE, op1, ev, lkp, ah, ag, bm, reduceCtorEq, E, D, J, U, O, S, Try.td4]; refine V _ ?_; clear V K0; simp only [put, app, aa, af, zE, zS, D])
   refine aj ?_
   refine ⟨by simp only [Y, lkp, zE, reduceCtorEq, E, Z, D]; exact rfl, rfl, ?_, rfl⟩; (repeat refine aV rfl ?_); exact bt (by exact rfl) hq7
  case b7 => exact bq (by first | rfl | (simp [bS]; done) | decide)
  simp only [bg, aX]
  (refine ad rfl fun K0 V => ?_; simp only [zE, op1, ev, lkp, ah, ag, ev, reduceCtorEq, E, D, J, U, O, S, Try.td4]; refine V _ ?_; clear V K0; simp only [put, app, aa, af, zE, zS, D])
  refine aj ?_
  refine hK6 _ ?_; clear hK6; refine ae [0, 1, 2, 6, 7, 8] ?_; simp only [Y, lkp, zE, reduceCtorEq, E, Z, D]
  refine aI ?_
  refine ⟨by first | exact .inl rfl | exact .inr rfl, _, rfl, ?_⟩; simp only [fzV, fz1, fzC, List.map_cons, List.map_nil, Y, lkp, zE, reduceCtorEq, E, Z, D]
  refine VLE.of_eq ?_
  refine congrArg (fun b => AV.one (AC.bool b)) ?_
  unfold opB
  symm
  first
  | (rw [if_pos (by assumption)]; done)
  | (rw [if_neg (by assumption), if_pos (by assumption)]; done)
  | (rw [if_neg (by assumption), if_neg (by assumption), if_pos (by assumption)]; done)
  | (rw [if_neg (by assumption), if_neg (by assumption), if_neg (by assumption)]; cases x <;> cases y <;> rfl)
 ·(try simp only [zB, reduceCtorEq] at hc5)
  refine ab fun K8 hK8 => ?_
  refine ai hP hN rfl ?_
  iterate 2 (refine ad rfl fun K0 V => ?_; simp only [zE, op1, ev, lkp, ah, ag, aE, aC, aD, ar, aB, aN, reduceCtorEq, E, D, J, U, O, S, Try.td3, Try.td4]; (repeat refine And.intro (by first | omega | assumption | exact rfl) ?_); refine V _ ?_; clear V K0; simp only [put, app, aa, af, zE, zS, D])
  refine aj ?_
  refine hK8 _ ?_; clear hK8; refine ae [0, 1, 2, 6, 7, 8, 14] ?_; simp only [Y, lkp, zE, reduceCtorEq, E, Z, D]
  refine aF (by simp only [ev, Y, lkp, zE, reduceCtorEq, E, Z, D]; exact rfl) (fun hc9 => ?_) (fun hc9 => ?_)
  ·(try simp only [zB, reduceCtorEq] at hc9)
   refine ab fun K10 hK10 => ?_
   refine ai hP hN rfl ?_
   (refine ad rfl fun K0 V => ?_; simp only [zE, op1, ev, lkp, ah, ag, ev, reduceCtorEq, E, D, J, U, O, S, Try.td4]; refine V _ ?_; clear V K0; simp only [put, app, aa, af, zE, zS, D])
   (refine ad rfl fun K0 V => ?_; simp only [zE, op1, ev, lkp, ah, ag, ev, reduceCtorEq, E, D, J, U, O, S, Try.td4]; refine V _ ?_; clear V K0; simp only [put, app, aa, af, zE, zS, D])
   refine' aU (want := false) 1 rfl (m := 17) (by simp only [Y, lkp, zE, reduceCtorEq, E, Z, D]; exact rfl) (by kernel_rfl) rfl rfl rfl rfl rfl (fun hg11 => ?a11) ?b11 ?c11
   case a11 =>
    have hq11 := hg11; (try simp only [zB, reduceCtorEq] at hg11); simp only [List.take_succ_cons, List.take_zero, List.cons_append, List.nil_append]
    (refine aA rfl fun K0 V => ?_; simp only [zE, op1, ev, lkp, ah, ag, ev, reduceCtorEq, E, D, J, U, O, S, Try.td4]; refine V _ ?_; clear V K0; simp only [put, app, aa, af, zE, zS, D])
    (refine ad rfl fun K0 V => ?_; simp only [zE, op1, ev, lkp, ah, ag, bm, reduceCtorEq, E, D, J, U, O, S, Try.td4]; refine V _ ?_; clear V K0; simp only [put, app, aa, af, zE, zS, D])
    refine aj ?_
    refine ⟨by simp only [Y, lkp, zE, reduceCtorEq, E, Z, D]; exact rfl, rfl, ?_, rfl⟩; (repeat refine aV rfl ?_); exact bt (by exact rfl) hq11
   case b11 => exact bq (by first | rfl | (simp [bS]; done) | decide)
   simp only [bg, aX]
   (refine ad rfl fun K0 V => ?_; simp only [zE, op1, ev, lkp, ah, ag, ev, reduceCtorEq, E, D, J, U, O, S, Try.td4]; refine V _ ?_; clear V K0; simp only [put, app, aa, af, zE, zS, D])
   refine aj ?_
   refine hK10 _ ?_; clear hK10; refine ae [0, 1, 2, 6, 7, 8, 14] ?_; simp only [Y, lkp, zE, reduceCtorEq, E, Z, D]
   refine aI ?_
   refine ⟨by first | exact .inl rfl | exact .inr rfl, _, rfl, ?_⟩; simp only [fzV, fz1, fzC, List.map_cons, List.map_nil, Y, lkp, zE, reduceCtorEq, E, Z, D]
   refine VLE.of_eq ?_
   refine congrArg (fun b => AV.one (AC.bool b)) ?_
   unfold opB
   symm
   first
   | (rw [if_pos (by assumption)]; done)
   | (rw [if_neg (by assumption), if_pos (by assumption)]; done)
   | (rw [if_neg (by assumption), if_neg (by assumption), if_pos (by assumption)]; done)
   | (rw [if_neg (by assumption), if_neg (by assumption), if_neg (by assumption)]; cases x <;> cases y <;> rfl)
  ·(try simp only [zB, reduceCtorEq] at hc9)
   refine ab fun K12 hK12 => ?_
   refine ai hP hN rfl ?_
   iterate 2 (refine ad rfl fun K0 V => ?_; simp only [zE, op1, ev, lkp, ah, ag, aE, aC, aD, ar, aB, aN, reduceCtorEq, E, D, J, U, O, S, Try.td3, Try.td4]; (repeat refine And.intro (by first | omega | assumption | exact rfl) ?_); refine V _ ?_; clear V K0; simp only [put, app, aa, af, zE, zS, D])
   refine aj ?_
   refine hK12 _ ?_; clear hK12; refine ae [0, 1, 2, 6, 7, 8, 14, 20] ?_; simp only [Y, lkp, zE, reduceCtorEq, E, Z, D]
   refine aF (by simp only [ev, Y, lkp, zE, reduceCtorEq, E, Z, D]; exact rfl) (fun hc13 => ?_) (fun hc13 => ?_)
   ·(try simp only [zB, reduceCtorEq] at hc13)
    refine ab fun K14 hK14 => ?_
    refine ai hP hN rfl ?_
    (refine ad rfl fun K0 V => ?_; simp only [zE, op1, ev, lkp, ah, ag, ev, reduceCtorEq, E, D, J, U, O, S, Try.td4]; refine V _ ?_; clear V K0; simp only [put, app, aa, af, zE, zS, D])
    (refine ad rfl fun K0 V => ?_; simp only [zE, op1, ev, lkp, ah, ag, ev, reduceCtorEq, E, D, J, U, O, S, Try.td4]; refine V _ ?_; clear V K0; simp only [put, app, aa, af, zE, zS, D])
    refine' aU (want := true) 2 rfl (m := 23) (by simp only [Y, lkp, zE, reduceCtorEq, E, Z, D]; exact rfl) (by kernel_rfl) rfl rfl rfl rfl rfl (fun hg15 => ?a15) ?b15 ?c15
    case a15 =>
     have hq15 := hg15; (try simp only [zB, reduceCtorEq] at hg15); simp only [List.take_succ_cons, List.take_zero, List.cons_append, List.nil_append]
     (refine aA rfl fun K0 V => ?_; simp only [zE, op1, ev, lkp, ah, ag, ev, reduceCtorEq, E, D, J, U, O, S, Try.td4]; refine V _ ?_; clear V K0; simp only [put, app, aa, af, zE, zS, D])
     (refine aA rfl fun K0 V => ?_; simp only [zE, op1, ev, lkp, ah, ag, gG, reduceCtorEq, E, D, J, U, O, S, Try.td4]; (repeat refine And.intro (by first | omega | assumption | exact rfl) ?_); refine V _ ?_; clear V K0; simp only [put, app, aa, af, zE, zS, D])
     (refine ad rfl fun K0 V => ?_; simp only [zE, op1, ev, lkp, ah, ag, bm, reduceCtorEq, E, D, J, U, O, S, Try.td4]; refine V _ ?_; clear V K0; simp only [put, app, aa, af, zE, zS, D])
     refine aj ?_
     refine ⟨by simp only [Y, lkp, zE, reduceCtorEq, E, Z, D]; exact rfl, rfl, ?_, rfl⟩; (repeat refine aV rfl ?_); exact bt (by exact rfl) hq15
    case b15 => exact bq (by first | rfl | (simp [bS]; done) | decide)
    simp only [bg, aX]
    (refine ad rfl fun K0 V => ?_; simp only [zE, op1, ev, lkp, ah, ag, ev, reduceCtorEq, E, D, J, U, O, S, Try.td4]; refine V _ ?_; clear V K0; simp only [put, app, aa, af, zE, zS, D])
    refine aj ?_
    refine hK14 _ ?_; clear hK14; refine ae [0, 1, 2, 6, 7, 8, 14, 20] ?_; simp only [Y, lkp, zE, reduceCtorEq, E, Z, D]
    refine aI ?_
    refine ⟨by first | exact .inl rfl | exact .inr rfl, _, rfl, ?_⟩; simp only [fzV, fz1, fzC, List.map_cons, List.map_nil, Y, lkp, zE, reduceCtorEq, E, Z, D]
    refine VLE.of_eq ?_
    refine congrArg (fun b => AV.one (AC.bool b)) ?_
    unfold opB
    symm
    first
    | (rw [if_pos (by assumption)]; done)
    | (rw [if_neg (by assumption), if_pos (by assumption)]; done)
    | (rw [if_neg (by assumption), if_neg (by assumption), if_pos (by assumption)]; done)
    | (rw [if_neg (by assumption), if_neg (by assumption), if_neg (by assumption)]; cases x <;> cases y <;> rfl)
   ·(try simp only [zB, reduceCtorEq] at hc13)
    refine aK ?_
    refine hK2 _ ?_; clear hK2; refine ae [0, 1, 2, 6, 7, 8, 14, 20] ?_; simp only [Y, lkp, zE, reduceCtorEq, E, Z, D]
    refine ab fun K16 hK16 => ?_
    refine ai hP hN rfl ?_
    iterate 4 (refine ad rfl fun K0 V => ?_; simp only [zE, op1, ev, lkp, ah, ag, aE, aC, aD, ar, aB, aN, reduceCtorEq, E, D, J, U, O, S, Try.td4]; (repeat refine And.intro (by first | omega | assumption | exact rfl) ?_); refine V _ ?_; clear V K0; simp only [put, app, aa, af, zE, zS, D])
    refine aj ?_
    refine hK16 _ ?_; clear hK16; refine ae [0, 1, 2, 6, 7, 8, 14, 20] ?_; simp only [Y, lkp, zE, reduceCtorEq, E, Z, D]
    refine aI ?_
    refine ⟨by first | exact .inl rfl | exact .inr rfl, _, rfl, ?_⟩; simp only [fzV, fz1, fzC, List.map_cons, List.map_nil, Y, lkp, zE, reduceCtorEq, E, Z, D]
    refine VLE.of_eq ?_
    refine congrArg (fun b => AV.one (AC.bool b)) ?_
    unfold opB
    symm
    first
    | (rw [if_pos (by assumption)]; done)
    | (rw [if_neg (by assumption), if_pos (by assumption)]; done)
    | (rw [if_neg (by assumption), if_neg (by assumption), if_pos (by assumption)]; done)
    | (rw [if_neg (by assumption), if_neg (by assumption), if_neg (by assumption)]; cases x <;> cases y <;> rfl)
end Go.Proofs.Ytdkgcbhbpdbmnaa
namespace Go.Proofs.Ytdkgcbhbpdbmnaa
open Go Go.AV
open Nat renaming reduceEqDiff → E, reduceAdd → D, reduceLeDiff → J, reduceLT → U, reduceMul → O, reduceSub → S
open List renaming set_cons_zero → aq, set_cons_succ → am
set_option maxRecDepth 100000 in
theorem su (op : Int) (a b : Dfa) (q : PP) (ha : DOK a) (hb : DOK b) (hi : a.inp = b.inp) (hq : inR a.nx.length b.nx.length q) : bJ Try.prog 56 [.agg [.int .i64 q.1, .int .i64 q.2], .one (.pat (.int .i64) op 0), .one (.pat (.pair (.int .i64) (.pair (.int .i64) (.pair (.list (.list (.int .i64))) (.pair (.list .bool) .unit)))) (a.inp, (a.st, (a.nx, (a.acc, ())))) 0), .one (.pat (.pair (.int .i64) (.pair (.int .i64) (.pair (.list (.list (.int .i64))) (.pair (.list .bool) .unit)))) (b.inp, (b.st, (b.nx, (b.acc, ())))) 0)] (.one (.bool (kS op a b q))) := by
 have hra := ha.rli hq.1; have hsa : ((a.nx.getD q.1.toNat []).length : Int) = a.inp := hra; have hta := hq.1; have hua := ha.al
 have hrb := hb.rli hq.2; have hsb : ((b.nx.getD q.2.toNat []).length : Int) = b.inp := hrb; have htb := hq.2; have hub := hb.al
 refine aS Try.func56 rfl (by kernel_rfl) (Nat.le_of_ble_eq_true rfl) rfl fun C hP hN hB => ?_
 replace hN : C.N = 20 := hN
 simp only [Z, D]
 refine ab fun K1 hK1 => ?_
 refine ai hP hN rfl ?_
 iterate 2 (refine ad rfl fun K0 V => ?_; simp only [zE, op1, ev, lkp, ah, ag, c0, au, reduceCtorEq, E, D, J, U, O, S, Try.ea81, Try.sa81, Try.td4, Try.td81]; (repeat refine And.intro (by first | omega | assumption | exact rfl) ?_); refine V _ ?_; clear V K0; simp only [put, app, aa, af, zE, zS, D])
 refine aj ?_
 refine hK1 _ ?_; clear hK1; refine ae [0, 1, 2, 3, 4, 5] ?_; simp only [Y, lkp, zE, reduceCtorEq, E, Z, D]
 refine ab fun K2 hK2 => ?_
 refine bY hP hN Try.mixed rfl ?_
 iterate 13 (refine ad rfl fun K0 V => ?_; simp only [zE, op1, ev, lkp, ah, ag, az, Nat.mul_one, ax, ay, acs, Ty.dflt, zG, ao, aw, aJ, Ty.size, ne_eq, not_false_eq_true, Int.natCast_one, Int.mul_one, reduceCtorEq, E, D, J, U, O, S, Try.ea81, Try.el23, Try.sa81, Try.st25, Try.td23, Try.td25, Try.td3, Try.td4, Try.td81]; (repeat refine And.intro (by first | omega | assumption | exact rfl) ?_); refine V _ ?_; clear V K0; simp only [put, app, aa, af, zE, zS, D])
 refine ad rfl fun K0 V => ?_
 refine aW (h := aG (rG op (a.acc.getD q.1.toNat false) (b.acc.getD q.2.toNat false))) rfl rfl (by first | exact rfl | (simp only [ev, Y, lkp, zE, reduceCtorEq, E, Z, D]; exact rfl)) (by simp only [zE, zG, op1, ev, lkp, ah, ag, au, acs, ba, mv1, mvC, Ty.dflt, reduceCtorEq, E, D, J, U, O, S]) ?_
 refine V _ ?_; clear V K0; simp only [put, app, aa, af, zE, zS, D]
 (refine ad rfl fun K0 V => ?_; simp only [zE, op1, ev, lkp, ah, ag, ev, reduceCtorEq, E, D, J, U, O, S, Try.td4]; refine V _ ?_; clear V K0; simp only [put, app, aa, af, zE, zS, D])
 refine aj ?_
 refine ⟨by kernel_rfl, ?_⟩
 refine hK2 _ ?_; clear hK2; refine ae [0, 1, 2, 3, 4, 5] ?_; simp only [Y, lkp, zE, reduceCtorEq, E, Z, D]
 refine aI ?_
 refine ⟨by first | exact .inl rfl | exact .inr rfl, _, rfl, ?_⟩; simp only [fzV, fz1, fzC, List.map_cons, List.map_nil, Y, lkp, zE, reduceCtorEq, E, Z, D]
 refine VLE.of_eq ?_
 rfl
end Go.Proofs.Ytdkgcbhbpdbmnaa
namespace Go.AV
open Nat renaming reduceEqDiff → E, reduceAdd → D, reduceLeDiff → J, reduceLT → U, reduceMul → O, reduceSub → S
open List renaming set_cons_zero → aq, set_cons_succ → am
/-plain-/
def g8 (d : Dfa) : List W3 := bv (ku d) d.inp.toNat (d.nx.length * 1) (d.st, 0)
def dh (a b : Dfa) : List W3 := bv (eH a b) a.inp.toNat (a.nx.length * b.nx.length) (a.st, b.st)
def laW (g : PP → Bool) (L : List W3) : List Int := if dB g L = true then ((dQ g L).getD ((dQ g L).length - 1) w30).2 else []
def gJ (d : Dfa) : List Int := if bo d = 0 then laW (eF d) (g8 d) else []
def j3 (d : Dfa) : Bool := if bo d = 0 then dB (eF d) (g8 d) else false
def eU (a b : Dfa) : List Int := if dk a b = 0 then laW (dU a b) (dh a b) else []
def fR (a b : Dfa) : Bool := if dk a b = 0 then dB (dU a b) (dh a b) else false
def dF (op : Int) (a b : Dfa) : Dfa := if op < 0 ∨ 3 < op then dr else if dk a b = 0 then dBD (eH a b) (kS op a b) a.inp.toNat (dh a b) else dr
def dZ (op : Int) (a b : Dfa) : Int := if op < 0 ∨ 3 < op then 2 else if dk a b = 0 then dBE (dh a b) else dk a b
theorem qI (g : PP → Bool) (l : List W3) : (dQ g l).length ≤ l.length := by
  unfold dQ
  split
  · rw [List.length_take]; omega
  · exact Nat.le_refl _
theorem oo {g : PP → Bool} {l : List W3} (h : dB g l = true) : 0 < (dQ g l).length := by
  unfold dB at h
  obtain ⟨k, hk⟩ := Option.isSome_iff_exists.1 h
  have hlt : k < l.length := by
    unfold dFi at hk
    rw [List.findIdx?_eq_some_iff_findIdx_eq] at hk
    exact hk.1
  unfold dQ
  rw [hk]
  show 0 < (l.take (k + 1)).length
  rw [List.length_take]; omega
theorem oD {d : Dfa} (h : DOK d) : inR d.nx.length 1 (d.st, 0) := ⟨⟨h.s1, h.s2⟩, by simp, by simp⟩
theorem jp {a b : Dfa} (ha : DOK a) (hb : DOK b) : inR a.nx.length b.nx.length (a.st, b.st) := ⟨⟨ha.s1, ha.s2⟩, hb.s1, hb.s2⟩
theorem r0 {d : Dfa} (h : DOK d) : (g8 d).length ≤ 100000 := by
  have h1 := h.i1; have h2 := h.n2
  have := (db (ng h (n := d.inp.toNat) (by omega)) (oD h)).1.le
  unfold g8; omega
theorem hF {m n : Nat} (h1 : m ≤ 128) (h2 : n ≤ 128) : m * n ≤ 100000 := Nat.le_trans (Nat.mul_le_mul h1 h2) (by decide)
theorem qN {a b : Dfa} (ha : DOK a) (hb : DOK b) (hi : a.inp = b.inp) : (dh a b).length ≤ 100000 := by
  have h1 := ha.i1
  exact Nat.le_trans (db (i6 ha hb hi (n := a.inp.toNat) (by omega)) (jp ha hb)).1.le (hF ha.n2 hb.n2)
end Go.AV
namespace Go.Proofs.Ytdkgcbhbpdbmnaa
open Go Go.AV
open Nat renaming reduceEqDiff → E, reduceAdd → D, reduceLeDiff → J, reduceLT → U, reduceMul → O, reduceSub → S
open List renaming set_cons_zero → aq, set_cons_succ → am
set_option maxRecDepth 100000 in
theorem m9 (op : Int) (a b : Dfa) : bJ Try.prog 22 [.one (.int .i64 op), a.av, b.av] (.tup [(dF op a b).av, .one (.int .i64 (dZ op a b))]) := by
 refine aS Try.func22 rfl (by kernel_rfl) (Nat.le_of_ble_eq_true rfl) rfl fun C hP hN hB => ?_
 replace hN : C.N = 39 := hN
 simp only [Z, D]
 refine ab fun K1 hK1 => ?_
 refine ai hP hN rfl ?_
 iterate 5 (refine ad rfl fun K0 V => ?_; simp only [zE, op1, ev, lkp, ah, ag, c0, au, bQ, reduceCtorEq, E, D, J, U, O, S, Try.st25, Try.td25, Try.td29, Try.td3, Dfa.av]; (repeat refine And.intro (by first | omega | assumption | exact rfl) ?_); (first | refine V _ ?_ | refine Or.inl (V _ ?_)); clear V K0; simp only [put, app, aa, af, zE, zS, D])
 refine aj ?_
 refine hK1 _ ?_; clear hK1; refine ae [0, 1, 2, 3, 4, 5, 6, 7] ?_; simp only [Y, lkp, zE, reduceCtorEq, E, Z, D]
 refine ab fun K2 hK2 => ?_
 refine ab fun K3 hK3 => ?_
 refine ai hP hN rfl ?_
 iterate 2 (refine ad rfl fun K0 V => ?_; simp only [zE, op1, ev, lkp, ah, ag, az, Nat.mul_one, ax, ay, acs, Ty.dflt, zG, ao, aE, aC, aD, ar, aB, aN, reduceCtorEq, E, D, J, U, O, S, Try.td3, Try.td4, Dfa.av]; (repeat refine And.intro (by first | omega | assumption | exact rfl) ?_); refine V _ ?_; clear V K0; simp only [put, app, aa, af, zE, zS, D])
 (refine ad rfl fun K0 V => ?_; simp only [zE, op1, ev, lkp, ah, ag, ev, reduceCtorEq, E, D, J, U, O, S, Try.td4, Dfa.av]; refine V _ ?_; clear V K0; simp only [put, app, aa, af, zE, zS, D])
 refine' aU (want := false) 2 rfl (m := 13) (by simp only [Y, lkp, zE, reduceCtorEq, E, Z, D]; exact rfl) (by kernel_rfl) rfl rfl rfl rfl rfl (fun hg4 => ?a4) ?b4 ?c4
 case a4 =>
  have hq4 := hg4; (try simp only [zB, reduceCtorEq] at hg4); simp only [List.take_succ_cons, List.take_zero, List.cons_append, List.nil_append]
  (refine aA rfl fun K0 V => ?_; simp only [zE, op1, ev, lkp, ah, ag, az, Nat.mul_one, ax, ay, acs, Ty.dflt, zG, ao, reduceCtorEq, E, D, J, U, O, S, Try.td3, Dfa.av]; (repeat refine And.intro (by first | omega | assumption | exact rfl) ?_); refine V _ ?_; clear V K0; simp only [put, app, aa, af, zE, zS, D])
  (refine aA rfl fun K0 V => ?_; simp only [zE, op1, ev, lkp, ah, ag, aE, aC, aD, ar, aB, aN, reduceCtorEq, E, D, J, U, O, S, Try.td3, Try.td4, Dfa.av]; (repeat refine And.intro (by first | omega | assumption | exact rfl) ?_); refine V _ ?_; clear V K0; simp only [put, app, aa, af, zE, zS, D])
  (refine ad rfl fun K0 V => ?_; simp only [zE, op1, ev, lkp, ah, ag, bm, reduceCtorEq, E, D, J, U, O, S, Try.td4, Dfa.av]; refine V _ ?_; clear V K0; simp only [put, app, aa, af, zE, zS, D])
  refine aj ?_
  refine ⟨by simp only [Y, lkp, zE, reduceCtorEq, E, Z, D]; exact rfl, rfl, ?_, rfl⟩; (repeat refine aV rfl ?_); exact bt (by exact rfl) hq4
 case b4 => exact bq (by first | rfl | (simp [bS]; done) | decide)
 simp only [bg, aX]
 refine aj ?_
 refine hK3 _ ?_; clear hK3; refine ae [0, 1, 2, 3, 4, 5, 6, 7, 16] ?_; simp only [Y, lkp, zE, reduceCtorEq, E, Z, D]
 refine aF (by simp only [ev, Y, lkp, zE, reduceCtorEq, E, Z, D]; exact rfl) (fun hc5 => ?_) (fun hc5 => ?_)
 ·(try simp only [zB, reduceCtorEq] at hc5)
  have hop : op < 0 ∨ 3 < op := by omega
  refine ab fun K6 hK6 => ?_
  refine ai hP hN rfl ?_
  iterate 3 (refine ad rfl fun K0 V => ?_; simp only [zE, op1, ev, lkp, ah, ag, bW, bh, aQ, au, bj, Nat.mul_one, aL, acs, Ty.size, Ty.dflt, zG, reduceCtorEq, E, D, J, U, O, S, Try.st25, Try.td25, Try.td29, Dfa.av]; (repeat refine And.intro (by first | omega | assumption | exact rfl) ?_); (first | refine V _ ?_ | refine Or.inl (V _ ?_)); clear V K0; simp only [put, app, aa, af, zE, zS, D])
  refine aj ?_
  refine hK6 _ ?_; clear hK6; refine ae [0, 1, 2, 3, 4, 5, 6, 7, 16] ?_; simp only [Y, lkp, zE, reduceCtorEq, E, Z, D]
  refine aI ?_
  refine ⟨by first | exact .inl rfl | exact .inr rfl, _, rfl, ?_⟩; simp only [fzV, fz1, fzC, List.map_cons, List.map_nil, Y, lkp, zE, reduceCtorEq, E, Z, D, Dfa.av]
  first
  | (have e1 : dF op a b = dr := if_pos hop
     have e2 : dZ op a b = 2 := if_pos hop
     rw [e1, e2]; exact bz ⟨bU ⟨.refl _, .refl _, aT rfl, aT rfl, trivial⟩, aR (.refl _), trivial⟩)
  | (have e1 : dF op a b = dr := by unfold dF; rw [if_neg hop, if_neg (by assumption)]
     have e2 : dZ op a b = dk a b := by unfold dZ; rw [if_neg hop, if_neg (by assumption)]
     rw [e1, e2]; exact bz ⟨bU ⟨.refl _, .refl _, aT rfl, aT rfl, trivial⟩, aR (.refl _), trivial⟩)
  | (have e1 : dF op a b = dBD (eH a b) (kS op a b) a.inp.toNat (dh a b) := by unfold dF; rw [if_neg hop, if_pos ht]
     have e2 : dZ op a b = dBE (dh a b) := by unfold dZ; rw [if_neg hop, if_pos ht]
     rw [e1, e2]; exact VLE.of_eq rfl)
 ·(try simp only [zB, reduceCtorEq] at hc5)
  have hop : ¬ (op < 0 ∨ 3 < op) := by omega
  refine aK ?_
  refine hK2 _ ?_; clear hK2; refine ae [0, 1, 2, 3, 4, 5, 6, 7, 16] ?_; simp only [Y, lkp, zE, reduceCtorEq, E, Z, D]
  refine ab fun K7 hK7 => ?_
  refine ab fun K8 hK8 => ?_
  refine ai hP hN rfl ?_
  iterate 2 (refine ad rfl fun K0 V => ?_; simp only [zE, op1, ev, lkp, ah, ag, az, Nat.mul_one, ax, ay, acs, Ty.dflt, zG, ao, reduceCtorEq, E, D, J, U, O, S, Try.st25, Try.td25, Dfa.av]; (repeat refine And.intro (by first | omega | assumption | exact rfl) ?_); refine V _ ?_; clear V K0; simp only [put, app, aa, af, zE, zS, D])
  refine ad rfl fun K0 V => ?_
  refine aW (h := aG (mT a b)) rfl rfl (by first | exact rfl | (simp only [ev, Y, lkp, zE, reduceCtorEq, E, Z, D]; exact rfl)) (by simp only [zE, zG, op1, ev, lkp, ah, ag, au, acs, ba, mv1, mvC, Ty.dflt, reduceCtorEq, E, D, J, U, O, S, Dfa.av]) ?_
  refine V _ ?_; clear V K0; simp only [put, app, aa, af, zE, zS, D]
  (refine ad rfl fun K0 V => ?_; simp only [zE, op1, ev, lkp, ah, ag, ev, reduceCtorEq, E, D, J, U, O, S, Try.td29, Dfa.av]; refine V _ ?_; clear V K0; simp only [put, app, aa, af, zE, zS, D])
  refine aj ?_
  refine hK8 _ ?_; clear hK8; refine ae [0, 1, 2, 3, 4, 5, 6, 7, 8, 16] ?_; simp only [Y, lkp, zE, reduceCtorEq, E, Z, D]
  refine ab fun K9 hK9 => ?_
  refine ai hP hN rfl ?_
  iterate 2 (refine ad rfl fun K0 V => ?_; simp only [zE, op1, ev, lkp, ah, ag, aE, aC, aD, ar, aB, aN, reduceCtorEq, E, D, J, U, O, S, Try.td29, Try.td4, Dfa.av]; (repeat refine And.intro (by first | omega | assumption | exact rfl) ?_); refine V _ ?_; clear V K0; simp only [put, app, aa, af, zE, zS, D])
  refine aj ?_
  refine hK9 _ ?_; clear hK9; refine ae [0, 1, 2, 3, 4, 5, 6, 7, 8, 16, 22] ?_; simp only [Y, lkp, zE, reduceCtorEq, E, Z, D]
  refine aF (by simp only [ev, Y, lkp, zE, reduceCtorEq, E, Z, D]; exact rfl) (fun hc10 => ?_) (fun hc10 => ?_)
  ·(try simp only [zB, reduceCtorEq] at hc10)
   refine ab fun K11 hK11 => ?_
   refine ai hP hN rfl ?_
   iterate 4 (refine ad rfl fun K0 V => ?_; simp only [zE, op1, ev, lkp, ah, ag, bW, bh, aQ, au, bj, Nat.mul_one, aL, acs, Ty.size, Ty.dflt, zG, reduceCtorEq, E, D, J, U, O, S, Try.st25, Try.td25, Try.td29, Dfa.av]; (repeat refine And.intro (by first | omega | assumption | exact rfl) ?_); (first | refine V _ ?_ | refine Or.inl (V _ ?_)); clear V K0; simp only [put, app, aa, af, zE, zS, D])
   refine aj ?_
   refine hK11 _ ?_; clear hK11; refine ae [0, 1, 2, 3, 4, 5, 6, 7, 8, 16, 22] ?_; simp only [Y, lkp, zE, reduceCtorEq, E, Z, D]
   refine aI ?_
   refine ⟨by first | exact .inl rfl | exact .inr rfl, _, rfl, ?_⟩; simp only [fzV, fz1, fzC, List.map_cons, List.map_nil, Y, lkp, zE, reduceCtorEq, E, Z, D, Dfa.av]
   first
   | (have e1 : dF op a b = dr := if_pos hop
      have e2 : dZ op a b = 2 := if_pos hop
      rw [e1, e2]; exact bz ⟨bU ⟨.refl _, .refl _, aT rfl, aT rfl, trivial⟩, aR (.refl _), trivial⟩)
   | (have e1 : dF op a b = dr := by unfold dF; rw [if_neg hop, if_neg (by assumption)]
      have e2 : dZ op a b = dk a b := by unfold dZ; rw [if_neg hop, if_neg (by assumption)]
      rw [e1, e2]; exact bz ⟨bU ⟨.refl _, .refl _, aT rfl, aT rfl, trivial⟩, aR (.refl _), trivial⟩)
   | (have e1 : dF op a b = dBD (eH a b) (kS op a b) a.inp.toNat (dh a b) := by unfold dF; rw [if_neg hop, if_pos ht]
      have e2 : dZ op a b = dBE (dh a b) := by unfold dZ; rw [if_neg hop, if_pos ht]
      rw [e1, e2]; exact VLE.of_eq rfl)
  ·(try simp only [zB, reduceCtorEq] at hc10)
   have ht : dk a b = 0 := by omega
   obtain ⟨ha, hb, hi⟩ := jM ht
   have a1 := ha.i1; have a2 := ha.i2; have a4 := ha.n2; have b4 := hb.n2; have hm9 := hF a4 b4
   refine aK ?_
   refine hK7 _ ?_; clear hK7; refine ae [0, 1, 2, 3, 4, 5, 6, 7, 8, 16, 22] ?_; simp only [Y, lkp, zE, reduceCtorEq, E, Z, D]
   refine ab fun K12 hK12 => ?_
   refine cv 0 (.int .i64) rfl rfl ?_; simp only [List.map_cons, List.map_nil, shV, if_true, zS, if_false, eq_self, E, reduceCtorEq, Nat.one_ne_zero, Nat.zero_ne_one]
   refine cv 1 (.pair (.int .i64) (.pair (.int .i64) (.pair (.list (.list (.int .i64))) (.pair (.list .bool) .unit)))) rfl rfl ?_; simp only [List.map_cons, List.map_nil, shV, if_true, zS, if_false, eq_self, E, reduceCtorEq, Nat.one_ne_zero, Nat.zero_ne_one]
   refine cv 2 (.pair (.int .i64) (.pair (.int .i64) (.pair (.list (.list (.int .i64))) (.pair (.list .bool) .unit)))) rfl rfl ?_; simp only [List.map_cons, List.map_nil, shV, if_true, zS, if_false, eq_self, E, reduceCtorEq, Nat.one_ne_zero, Nat.zero_ne_one]
   refine ai hP hN rfl ?_
   iterate 2 (refine ad rfl fun K0 V => ?_; simp only [zE, op1, ev, lkp, ah, ag, cp, cK, di, reduceCtorEq, E, D, J, U, O, S, Try.td82, Dfa.av]; (repeat refine And.intro (by first | omega | assumption | exact rfl) ?_); (first | refine V _ ?_ | refine Or.inl (V _ ?_)); clear V K0; simp only [put, app, aa, af, zE, zS, D])
   refine aj ?_
   refine hK12 _ ?_; clear hK12; refine ae [0, 1, 2, 3, 4, 5, 6, 7, 8, 9, 16, 22] ?_; simp only [Y, lkp, zE, reduceCtorEq, E, Z, D]
   refine ab fun K13 hK13 => ?_
   refine ai hP hN rfl ?_
   iterate 2 (refine ad rfl fun K0 V => ?_; simp only [zE, op1, ev, lkp, ah, ag, cp, cK, di, reduceCtorEq, E, D, J, U, O, S, Try.td87, Dfa.av]; (repeat refine And.intro (by first | omega | assumption | exact rfl) ?_); (first | refine V _ ?_ | refine Or.inl (V _ ?_)); clear V K0; simp only [put, app, aa, af, zE, zS, D])
   refine aj ?_
   refine hK13 _ ?_; clear hK13; refine ae [0, 1, 2, 3, 4, 5, 6, 7, 8, 9, 10, 16, 22] ?_; simp only [Y, lkp, zE, reduceCtorEq, E, Z, D]
   refine ab fun K14 hK14 => ?_
   refine ai hP hN rfl ?_
   iterate 9 (refine ad rfl fun K0 V => ?_; simp only [zE, op1, ev, lkp, ah, ag, aw, az, Nat.mul_one, ax, ay, acs, Ty.dflt, zG, ao, bW, bh, aQ, au, reduceCtorEq, E, D, J, U, O, S, Try.ea81, Try.sa81, Try.st25, Try.td1, Try.td25, Try.td3, Try.td81, Try.td82, Try.td87, Dfa.av]; (repeat refine And.intro (by first | omega | assumption | exact rfl) ?_); (first | refine V _ ?_ | refine Or.inl (V _ ?_)); clear V K0; simp only [put, app, aa, af, zE, zS, D])
   refine ad rfl fun K0 V => ?_
   refine aW (h := aG (gv a.inp.toNat 55 56 [.pat (.pair (.int .i64) (.pair (.int .i64) (.pair (.list (.list (.int .i64))) (.pair (.list .bool) .unit)))) (a.inp, (a.st, (a.nx, (a.acc, ())))), .pat (.pair (.int .i64) (.pair (.int .i64) (.pair (.list (.list (.int .i64))) (.pair (.list .bool) .unit)))) (b.inp, (b.st, (b.nx, (b.acc, ()))))] [.pat (.int .i64) op, .pat (.pair (.int .i64) (.pair (.int .i64) (.pair (.list (.list (.int .i64))) (.pair (.list .bool) .unit)))) (a.inp, (a.st, (a.nx, (a.acc, ())))), .pat (.pair (.int .i64) (.pair (.int .i64) (.pair (.list (.list (.int .i64))) (.pair (.list .bool) .unit)))) (b.inp, (b.st, (b.nx, (b.acc, ()))))] (eH a b) (kS op a b) (a.st, b.st) a.nx.length b.nx.length a.inp (by omega) rfl rfl hm9 (by omega) (by omega) (by omega) (jp ha hb) (i6 ha hb hi (by omega)) (fun q x hq hx => sa a b q x ha hb hi hq (by omega)) (fun q hq => su op a b q ha hb hi hq))) rfl rfl (by first | exact rfl | (simp only [ev, Y, lkp, zE, reduceCtorEq, E, Z, D]; exact rfl)) (by simp only [zE, zG, op1, ev, lkp, ah, ag, au, acs, ba, mv1, mvC, Ty.dflt, reduceCtorEq, E, D, J, U, O, S, Dfa.av]) ?_
   refine V _ ?_; clear V K0; simp only [put, app, aa, af, zE, zS, D]
   iterate 4 (refine ad rfl fun K0 V => ?_; simp only [zE, op1, ev, lkp, ah, ag, bI, bj, Nat.mul_one, au, aQ, aL, acs, Ty.size, Ty.dflt, zG, reduceCtorEq, E, D, J, U, O, S, Try.st25, Try.td1, Try.td25, Try.td29, Dfa.av]; (repeat refine And.intro (by first | omega | assumption | exact rfl) ?_); refine V _ ?_; clear V K0; simp only [put, app, aa, af, zE, zS, D])
   refine aj ?_
   refine hK14 _ ?_; clear hK14; refine ae [0, 1, 2, 3, 4, 5, 6, 7, 8, 9, 10, 16, 22] ?_; simp only [Y, lkp, zE, reduceCtorEq, E, Z, D]
   refine aI ?_
   refine ⟨by first | exact .inl rfl | exact .inr rfl, _, rfl, ?_⟩; simp only [fzV, fz1, fzC, List.map_cons, List.map_nil, Y, lkp, zE, reduceCtorEq, E, Z, D, Dfa.av]
   first
   | (have e1 : dF op a b = dr := if_pos hop
      have e2 : dZ op a b = 2 := if_pos hop
      rw [e1, e2]; exact bz ⟨bU ⟨.refl _, .refl _, aT rfl, aT rfl, trivial⟩, aR (.refl _), trivial⟩)
   | (have e1 : dF op a b = dr := by unfold dF; rw [if_neg hop, if_neg (by assumption)]
      have e2 : dZ op a b = dk a b := by unfold dZ; rw [if_neg hop, if_neg (by assumption)]
      rw [e1, e2]; exact bz ⟨bU ⟨.refl _, .refl _, aT rfl, aT rfl, trivial⟩, aR (.refl _), trivial⟩)
   | (have e1 : dF op a b = dBD (eH a b) (kS op a b) a.inp.toNat (dh a b) := by unfold dF; rw [if_neg hop, if_pos ht]
      have e2 : dZ op a b = dBE (dh a b) := by unfold dZ; rw [if_neg hop, if_pos ht]
      rw [e1, e2]; exact VLE.of_eq rfl)
end Go.Proofs.Ytdkgcbhbpdbmnaa
namespace Go.Proofs.Ytdkgcbhbpdbmnaa
open Go Go.AV
open Nat renaming reduceEqDiff → E, reduceAdd → D, reduceLeDiff → J, reduceLT → U, reduceMul → O, reduceSub → S
open List renaming set_cons_zero → aq, set_cons_succ → am
set_option maxRecDepth 100000 in
theorem oK  : bJ Try.prog 43 [.one .nils] (.one .nils) := by
 refine aS Try.func43 rfl (by kernel_rfl) (Nat.le_of_ble_eq_true rfl) rfl fun C hP hN hB => ?_
 replace hN : C.N = 8 := hN
 simp only [Z, D]
 refine ab fun K1 hK1 => ?_
 refine ai hP hN rfl ?_
 (refine ad rfl fun K0 V => ?_; simp only [zE, op1, ev, lkp, ah, ag, ev, reduceCtorEq, E, D, J, U, O, S, Try.el26, Try.td26]; refine V _ ?_; clear V K0; simp only [put, app, aa, af, zE, zS, D])
 refine aj ?_
 refine hK1 _ ?_; clear hK1; refine ae [0, 2] ?_; simp only [Y, lkp, zE, reduceCtorEq, E, Z, D]
 refine ab fun K2 hK2 => ?_
 refine ab fun K3 hK3 => ?_
 refine ai hP hN rfl ?_
 iterate 2 (refine ad rfl fun K0 V => ?_; simp only [zE, op1, ev, lkp, ah, ag, aE, aC, aD, ar, aB, aN, reduceCtorEq, E, D, J, U, O, S, Try.el26, Try.td26, Try.td4]; (repeat refine And.intro (by first | omega | assumption | exact rfl) ?_); refine V _ ?_; clear V K0; simp only [put, app, aa, af, zE, zS, D])
 refine aj ?_
 refine hK3 _ ?_; clear hK3; refine ae [0, 2, 4] ?_; simp only [Y, lkp, zE, reduceCtorEq, E, Z, D]
 refine aF (by simp only [ev, Y, lkp, zE, reduceCtorEq, E, Z, D]; exact rfl) (fun hc4 => ?_) (fun hc4 => ?_)
 ·(try simp only [zB, reduceCtorEq] at hc4)
  refine ab fun K5 hK5 => ?_
  refine ai hP hN rfl ?_
  (refine ad rfl fun K0 V => ?_; simp only [zE, op1, ev, lkp, ah, ag, ev, reduceCtorEq, E, D, J, U, O, S, Try.el26, Try.td26]; refine V _ ?_; clear V K0; simp only [put, app, aa, af, zE, zS, D])
  refine aj ?_
  refine hK5 _ ?_; clear hK5; refine ae [0, 2, 4] ?_; simp only [Y, lkp, zE, reduceCtorEq, E, Z, D]
  refine aI ?_
  refine ⟨by first | exact .inl rfl | exact .inr rfl, _, rfl, ?_⟩; simp only [fzV, fz1, fzC, List.map_cons, List.map_nil, Y, lkp, zE, reduceCtorEq, E, Z, D]
  refine VLE.of_eq ?_
  rfl
 · exfalso; (try simp only [zB, reduceCtorEq] at hc4); all_goals (first | (cases hc4; done) | omega | (simp at hc4; done) | (simp_all; done))
end Go.Proofs.Ytdkgcbhbpdbmnaa
namespace Go.Proofs.Ytdkgcbhbpdbmnaa
open Go Go.AV
open Nat renaming reduceEqDiff → E, reduceAdd → D, reduceLeDiff → J, reduceLT → U, reduceMul → O, reduceSub → S
open List renaming set_cons_zero → aq, set_cons_succ → am
set_option maxRecDepth 100000 in
theorem sC  : bJ Try.prog 43 [.one .emp] (.one (.list (.int .i64) [])) := by
 refine aS Try.func43 rfl (by kernel_rfl) (Nat.le_of_ble_eq_true rfl) rfl fun C hP hN hB => ?_
 replace hN : C.N = 8 := hN
 simp only [Z, D]
 refine ab fun K1 hK1 => ?_
 refine ai hP hN rfl ?_
 (refine ad rfl fun K0 V => ?_; simp only [zE, op1, ev, lkp, ah, ag, ev, reduceCtorEq, E, D, J, U, O, S, Try.el26, Try.td26]; refine V _ ?_; clear V K0; simp only [put, app, aa, af, zE, zS, D])
 refine aj ?_
 refine hK1 _ ?_; clear hK1; refine ae [0, 2] ?_; simp only [Y, lkp, zE, reduceCtorEq, E, Z, D]
 refine ab fun K2 hK2 => ?_
 refine ab fun K3 hK3 => ?_
 refine ai hP hN rfl ?_
 iterate 2 (refine ad rfl fun K0 V => ?_; simp only [zE, op1, ev, lkp, ah, ag, aE, aC, aD, ar, aB, aN, reduceCtorEq, E, D, J, U, O, S, Try.el26, Try.td26, Try.td4]; (repeat refine And.intro (by first | omega | assumption | exact rfl) ?_); refine V _ ?_; clear V K0; simp only [put, app, aa, af, zE, zS, D])
 refine aj ?_
 refine hK3 _ ?_; clear hK3; refine ae [0, 2, 4] ?_; simp only [Y, lkp, zE, reduceCtorEq, E, Z, D]
 refine aF (by simp only [ev, Y, lkp, zE, reduceCtorEq, E, Z, D]; exact rfl) (fun hc4 => ?_) (fun hc4 => ?_)
 · exfalso; (try simp only [zB, reduceCtorEq] at hc4); all_goals (first | (cases hc4; done) | omega | (simp at hc4; done) | (simp_all; done))
 ·(try simp only [zB, reduceCtorEq] at hc4)
  refine aK ?_
  refine hK2 _ ?_; clear hK2; refine ae [0, 2, 4] ?_; simp only [Y, lkp, zE, reduceCtorEq, E, Z, D]
  refine ab fun K5 hK5 => ?_
  refine ai hP hN rfl ?_
  (refine ad rfl fun K0 V => ?_; simp only [zE, op1, ev, lkp, ah, ag, bn, bh, ch, rep, aL, aQ, au, Ty.size, reduceCtorEq, E, D, J, U, O, S, Try.el26, Try.td26]; (repeat refine And.intro (by first | omega | assumption | exact rfl) ?_); refine Or.inr (Or.inl (V _ ?_)); clear V K0; simp only [put, app, aa, af, zE, zS, D])
  iterate 3 (refine ad rfl fun K0 V => ?_; simp only [zE, op1, ev, lkp, ah, ag, aH, bu, bb, aY, aZ, br, Nat.div_one, aM, b0, Ty.size, aL, dite_true, reduceCtorEq, E, D, J, U, O, S, Try.el26, Try.td26]; (repeat refine And.intro (by first | omega | assumption | exact rfl) ?_); (first | refine V _ ?_ | refine Or.inl (V _ ?_)); clear V K0; simp only [put, app, aa, af, zE, zS, D])
  refine aj ?_
  refine hK5 _ ?_; clear hK5; refine ae [0, 2, 4] ?_; simp only [Y, lkp, zE, reduceCtorEq, E, Z, D]
  refine aI ?_
  refine ⟨by first | exact .inl rfl | exact .inr rfl, _, rfl, ?_⟩; simp only [fzV, fz1, fzC, List.map_cons, List.map_nil, Y, lkp, zE, reduceCtorEq, E, Z, D]
  refine VLE.of_eq ?_
  rfl
end Go.Proofs.Ytdkgcbhbpdbmnaa
namespace Go.Proofs.Ytdkgcbhbpdbmnaa
open Go Go.AV
open Nat renaming reduceEqDiff → E, reduceAdd → D, reduceLeDiff → J, reduceLT → U, reduceMul → O, reduceSub → S
open List renaming set_cons_zero → aq, set_cons_succ → am
set_option maxRecDepth 100000 in
theorem sc (xs : List Int) (h0 : 0 < xs.length) (h1 : xs.length ≤ 10000000000000) : bJ Try.prog 43 [.one (.list (.int .i64) xs)] (.one (.list (.int .i64) xs)) := by
 refine aS Try.func43 rfl (by kernel_rfl) (Nat.le_of_ble_eq_true rfl) rfl fun C hP hN hB => ?_
 replace hN : C.N = 8 := hN
 simp only [Z, D]
 refine ab fun K1 hK1 => ?_
 refine ai hP hN rfl ?_
 (refine ad rfl fun K0 V => ?_; simp only [zE, op1, ev, lkp, ah, ag, ev, reduceCtorEq, E, D, J, U, O, S, Try.el26, Try.td26]; refine V _ ?_; clear V K0; simp only [put, app, aa, af, zE, zS, D])
 refine aj ?_
 refine hK1 _ ?_; clear hK1; refine ae [0, 2] ?_; simp only [Y, lkp, zE, reduceCtorEq, E, Z, D]
 refine ab fun K2 hK2 => ?_
 refine ab fun K3 hK3 => ?_
 refine ai hP hN rfl ?_
 iterate 2 (refine ad rfl fun K0 V => ?_; simp only [zE, op1, ev, lkp, ah, ag, aE, aC, aD, ar, aB, aN, reduceCtorEq, E, D, J, U, O, S, Try.el26, Try.td26, Try.td4]; (repeat refine And.intro (by first | omega | assumption | exact rfl) ?_); refine V _ ?_; clear V K0; simp only [put, app, aa, af, zE, zS, D])
 refine aj ?_
 refine hK3 _ ?_; clear hK3; refine ae [0, 2, 4] ?_; simp only [Y, lkp, zE, reduceCtorEq, E, Z, D]
 refine aF (by simp only [ev, Y, lkp, zE, reduceCtorEq, E, Z, D]; exact rfl) (fun hc4 => ?_) (fun hc4 => ?_)
 · exfalso; (try simp only [zB, reduceCtorEq] at hc4); all_goals (first | (cases hc4; done) | omega | (simp at hc4; done) | (simp_all; done))
 ·(try simp only [zB, reduceCtorEq] at hc4)
  refine aK ?_
  refine hK2 _ ?_; clear hK2; refine ae [0, 2, 4] ?_; simp only [Y, lkp, zE, reduceCtorEq, E, Z, D]
  refine ab fun K5 hK5 => ?_
  refine ai hP hN rfl ?_
  (refine ad rfl fun K0 V => ?_; simp only [zE, op1, ev, lkp, ah, ag, bn, bh, ch, rep, aL, aQ, au, Ty.size, reduceCtorEq, E, D, J, U, O, S, Try.el26, Try.td26]; (repeat refine And.intro (by first | omega | assumption | exact rfl) ?_); refine Or.inr (Or.inl (V _ ?_)); clear V K0; simp only [put, app, aa, af, zE, zS, D])
  iterate 3 (refine ad rfl fun K0 V => ?_; simp only [zE, op1, ev, lkp, ah, ag, aH, bu, bb, aY, aZ, br, Nat.div_one, aM, b0, Ty.size, aL, dite_true, reduceCtorEq, E, D, J, U, O, S, Try.el26, Try.td26]; (repeat refine And.intro (by first | omega | assumption | exact rfl) ?_); (first | refine V _ ?_ | refine Or.inl (V _ ?_)); clear V K0; simp only [put, app, aa, af, zE, zS, D])
  refine aj ?_
  refine hK5 _ ?_; clear hK5; refine ae [0, 2, 4] ?_; simp only [Y, lkp, zE, reduceCtorEq, E, Z, D]
  refine aI ?_
  refine ⟨by first | exact .inl rfl | exact .inr rfl, _, rfl, ?_⟩; simp only [fzV, fz1, fzC, List.map_cons, List.map_nil, Y, lkp, zE, reduceCtorEq, E, Z, D]
  refine VLE.of_eq ?_
  rfl
end Go.Proofs.Ytdkgcbhbpdbmnaa
namespace Go.Proofs.Ytdkgcbhbpdbmnaa
open Go Go.AV
open Nat renaming reduceEqDiff → E, reduceAdd → D, reduceLeDiff → J, reduceLT → U, reduceMul → O, reduceSub → S
open List renaming set_cons_zero → aq, set_cons_succ → am
theorem nh (xs : List Int) (h : xs.length ≤ 10000000000000) : bJ Try.prog 43 [.one (.list (.int .i64) xs)] (.one (.list (.int .i64) xs)) :=
  mU (t := .int .i64) (fun e => o3 oK (jB (aT e))) (fun e => by subst e; exact sC) (fun h0 => sc xs h0 h) oK.1

end Go.Proofs.Ytdkgcbhbpdbmnaa
namespace Go.Proofs.Ytdkgcbhbpdbmnaa
open Go Go.AV
open Nat renaming reduceEqDiff → E, reduceAdd → D, reduceLeDiff → J, reduceLT → U, reduceMul → O, reduceSub → S
open List renaming set_cons_zero → aq, set_cons_succ → am
set_option maxRecDepth 100000 in
theorem qZ (d : Dfa) : bJ Try.prog 14 [d.av] (.tup [(coD d).av, .one (.int .i64 (bo d))]) := by
 refine aS Try.func14 rfl (by kernel_rfl) (Nat.le_of_ble_eq_true rfl) rfl fun C hP hN hB => ?_
 replace hN : C.N = 47 := hN
 simp only [Z, D]
 refine ab fun K1 hK1 => ?_
 refine ai hP hN rfl ?_
 iterate 3 (refine ad rfl fun K0 V => ?_; simp only [zE, op1, ev, lkp, ah, ag, c0, au, bQ, reduceCtorEq, E, D, J, U, O, S, Try.st25, Try.td25, Try.td29, Dfa.av]; (repeat refine And.intro (by first | omega | assumption | exact rfl) ?_); (first | refine V _ ?_ | refine Or.inl (V _ ?_)); clear V K0; simp only [put, app, aa, af, zE, zS, D])
 refine aj ?_
 refine hK1 _ ?_; clear hK1; refine ae [0, 1, 2, 3] ?_; simp only [Y, lkp, zE, reduceCtorEq, E, Z, D]
 refine ab fun K2 hK2 => ?_
 refine ab fun K3 hK3 => ?_
 refine ai hP hN rfl ?_
 (refine ad rfl fun K0 V => ?_; simp only [zE, op1, ev, lkp, ah, ag, az, Nat.mul_one, ax, ay, acs, Ty.dflt, zG, ao, reduceCtorEq, E, D, J, U, O, S, Try.st25, Try.td25, Dfa.av]; (repeat refine And.intro (by first | omega | assumption | exact rfl) ?_); refine V _ ?_; clear V K0; simp only [put, app, aa, af, zE, zS, D])
 refine ad rfl fun K0 V => ?_
 refine aW (h := aG (dt d)) rfl rfl (by first | exact rfl | (simp only [ev, Y, lkp, zE, reduceCtorEq, E, Z, D]; exact rfl)) (by simp only [zE, zG, op1, ev, lkp, ah, ag, au, acs, ba, mv1, mvC, Ty.dflt, reduceCtorEq, E, D, J, U, O, S, Dfa.av]) ?_
 refine V _ ?_; clear V K0; simp only [put, app, aa, af, zE, zS, D]
 (refine ad rfl fun K0 V => ?_; simp only [zE, op1, ev, lkp, ah, ag, ev, reduceCtorEq, E, D, J, U, O, S, Try.td29, Dfa.av]; refine V _ ?_; clear V K0; simp only [put, app, aa, af, zE, zS, D])
 refine aj ?_
 refine hK3 _ ?_; clear hK3; refine ae [0, 1, 2, 3, 4] ?_; simp only [Y, lkp, zE, reduceCtorEq, E, Z, D]
 refine ab fun K4 hK4 => ?_
 refine ai hP hN rfl ?_
 iterate 2 (refine ad rfl fun K0 V => ?_; simp only [zE, op1, ev, lkp, ah, ag, aE, aC, aD, ar, aB, aN, reduceCtorEq, E, D, J, U, O, S, Try.td29, Try.td4, Dfa.av]; (repeat refine And.intro (by first | omega | assumption | exact rfl) ?_); refine V _ ?_; clear V K0; simp only [put, app, aa, af, zE, zS, D])
 refine aj ?_
 refine hK4 _ ?_; clear hK4; refine ae [0, 1, 2, 3, 4, 11] ?_; simp only [Y, lkp, zE, reduceCtorEq, E, Z, D]
 refine aF (by simp only [ev, Y, lkp, zE, reduceCtorEq, E, Z, D]; exact rfl) (fun hc5 => ?_) (fun hc5 => ?_)
 ·(try simp only [zB, reduceCtorEq] at hc5)
  refine ab fun K6 hK6 => ?_
  refine ai hP hN rfl ?_
  iterate 4 (refine ad rfl fun K0 V => ?_; simp only [zE, op1, ev, lkp, ah, ag, bW, bh, aQ, au, bj, Nat.mul_one, aL, acs, Ty.size, Ty.dflt, zG, reduceCtorEq, E, D, J, U, O, S, Try.st25, Try.td25, Try.td29, Dfa.av]; (repeat refine And.intro (by first | omega | assumption | exact rfl) ?_); (first | refine V _ ?_ | refine Or.inl (V _ ?_)); clear V K0; simp only [put, app, aa, af, zE, zS, D])
  refine aj ?_
  refine hK6 _ ?_; clear hK6; refine ae [0, 1, 2, 3, 4, 11] ?_; simp only [Y, lkp, zE, reduceCtorEq, E, Z, D]
  refine aI ?_
  refine ⟨by first | exact .inl rfl | exact .inr rfl, _, rfl, ?_⟩; simp only [fzV, fz1, fzC, List.map_cons, List.map_nil, Y, lkp, zE, reduceCtorEq, E, Z, D, Dfa.av]
  first
  | (rw [sK (by assumption)]; exact bz ⟨bU ⟨.refl _, .refl _, aT rfl, aT rfl, trivial⟩, aR (.refl _), trivial⟩)
  | (rw [sM hv, hv]; exact VLE.of_eq rfl)
 ·(try simp only [zB, reduceCtorEq] at hc5)
  have hv : bo d = 0 := by omega
  have hd := ef hv; have a1 := hd.i1; have a2 := hd.i2; have a3 := hd.n1; have a4 := hd.n2; have a5 := hd.s1; have a6 := hd.s2; have a7 := hd.al
  refine aK ?_
  refine hK2 _ ?_; clear hK2; refine ae [0, 1, 2, 3, 4, 11] ?_; simp only [Y, lkp, zE, reduceCtorEq, E, Z, D]
  refine ab fun K7 hK7 => ?_
  refine ai hP hN rfl ?_
  iterate 7 (refine ad rfl fun K0 V => ?_; simp only [zE, op1, ev, lkp, ah, ag, aw, az, Nat.mul_one, ax, ay, acs, Ty.dflt, zG, ao, bW, bh, aQ, au, bQ, bj, aL, Ty.size, reduceCtorEq, E, D, J, U, O, S, Try.st25, Try.td1, Try.td25, Try.td3, Dfa.av]; (repeat refine And.intro (by first | omega | assumption | exact rfl) ?_); (first | refine V _ ?_ | refine Or.inl (V _ ?_)); clear V K0; simp only [put, app, aa, af, zE, zS, D])
  refine aj ?_
  refine hK7 _ ?_; clear hK7; refine ae [0, 1, 2, 3, 4, 5, 11] ?_; simp only [Y, lkp, zE, reduceCtorEq, E, Z, D]
  refine ab fun K8 hK8 => ?_
  refine ab fun K9 hK9 => ?_
  refine ai hP hN rfl ?_
  iterate 4 (refine ad rfl fun K0 V => ?_; simp only [zE, op1, ev, lkp, ah, ag, aw, az, Nat.mul_one, ax, ay, acs, Ty.dflt, zG, ao, aH, bu, bb, aY, aZ, br, Nat.div_one, aM, b0, Ty.size, aL, dite_true, reduceCtorEq, E, D, J, U, O, S, Try.el22, Try.st25, Try.td2, Try.td22, Try.td25, Try.td3, Dfa.av]; (repeat refine And.intro (by first | omega | assumption | exact rfl) ?_); (first | refine V _ ?_ | refine Or.inl (V _ ?_)); clear V K0; simp only [put, app, aa, af, zE, zS, D])
  refine aj ?_
  refine hK9 _ ?_; clear hK9; refine ae [0, 1, 2, 3, 4, 5, 11, 20, 21, 22] ?_; simp only [Y, lkp, zE, reduceCtorEq, E, Z, D]
  refine aP ?_
  refine cY 2 2 (.list (.int .i64)) 26 (by decide) rfl rfl ?_; simp only [zS, List.length_cons, List.length_nil, List.cons_append, List.nil_append, Nat.zero_add, D]
  refine cY 2 3 (.bool) 4 (by decide) rfl rfl ?_; simp only [zS, List.length_cons, List.length_nil, List.cons_append, List.nil_append, Nat.zero_add, D]
  refine bG (fun n10 s10 => ∃ (k : Nat) (v : Nat), (k ≤ d.nx.length) ∧ n10 = d.nx.length - k ∧ s10 = { env := [(1, .one (.ptr 0 0 0 0)), (2, .one (.ptr 1 0 0 0)), (3, .one (.int .i64 0)), (5, .one (.ptr 2 0 0 0)), (20, .one (.list (.list (.int .i64)) d.nx)), (21, .one (.int .i64 (d.nx.length : Int))), (22, .one (.int .i64 (k : Int)))], L := [.vars 25 [.int .i64 d.inp, .int .i64 d.st, .list (.list (.int .i64)) d.nx, .list .bool d.acc], .vars 25 [.int .i64 0, .int .i64 0, .nils, .nils], .vars 25 [.int .i64 d.inp, .int .i64 d.st, .row 3 v, .row 4 v], .row (.list (.int .i64)) 26 v (d.nx.take k), .row .bool 4 v ((d.acc.take k).map (!·))] }) ?_ ?_
  ·exact ⟨_, _, aO [1, 2, 3, 5, 20, 21, 22], 0, 0, Nat.zero_le _, rfl, rfl⟩
  ·rintro n10 s10 ⟨k, v, hk, rfl, rfl⟩
   refine ab fun K11 hK11 => ?_
   refine ai hP hN rfl ?_
   (refine ad rfl fun K0 V => ?_; simp only [zE, op1, ev, lkp, ah, ag, aE, aC, aD, ar, aB, aN, reduceCtorEq, E, D, J, U, O, S, Try.td3, Dfa.av]; (repeat refine And.intro (by first | omega | assumption | exact rfl) ?_); refine V _ ?_; clear V K0; simp only [put, app, aa, af, zE, zS, D])
   refine aj ?_
   refine hK11 _ ?_; clear hK11; refine ae [1, 2, 3, 5, 20, 21, 22, 23] ?_; simp only [Y, lkp, zE, reduceCtorEq, E, Z, D]
   refine ab fun K12 hK12 => ?_
   refine aF (by simp only [ev, Y, lkp, zE, reduceCtorEq, E, Z, D]; exact rfl) (fun hc13 => ?_) (fun hc13 => ?_)
   ·(try simp only [zB, reduceCtorEq] at hc13)
    refine aK ?_
    refine hK12 _ ?_; clear hK12; refine ae [1, 2, 3, 5, 20, 21, 22, 23] ?_; simp only [Y, lkp, zE, reduceCtorEq, E, Z, D]
    refine ab fun K14 hK14 => ?_
    refine aP ?_
    refine ab fun K15 hK15 => ?_
    refine ai hP hN rfl ?_
    iterate 5 (refine ad rfl fun K0 V => ?_; simp only [zE, op1, ev, lkp, ah, ag, aJ, zG, Ty.dflt, Ty.size, Nat.mul_one, ne_eq, not_false_eq_true, Int.natCast_one, Int.mul_one, az, ax, ay, acs, ao, reduceCtorEq, E, D, J, U, O, S, Try.el22, Try.el26, Try.td22, Try.td26, Try.td3, Dfa.av]; (repeat refine And.intro (by first | omega | assumption | exact rfl) ?_); refine V _ ?_; clear V K0; simp only [put, app, aa, af, zE, zS, D])
    refine aj ?_
    refine hK15 _ ?_; clear hK15; refine ae [1, 2, 3, 5, 6, 7, 20, 21, 22, 23] ?_; simp only [Y, lkp, zE, reduceCtorEq, E, Z, D]
    refine ab fun K16 hK16 => ?_
    have hrl : ((d.nx.getD k []).length : Int) = d.inp := hd.rl k (by omega)
    refine bY hP hN Try.mixed rfl ?_
    iterate 3 (refine ad rfl fun K0 V => ?_; simp only [zE, op1, ev, lkp, ah, ag, aw, az, Nat.mul_one, ax, ay, acs, Ty.dflt, zG, ao, reduceCtorEq, E, D, J, U, O, S, Try.el22, Try.el26, Try.st25, Try.td2, Try.td22, Try.td25, Try.td26, Dfa.av, List.length_take]; (repeat refine And.intro (by first | omega | assumption | exact rfl) ?_); refine V _ ?_; clear V K0; simp only [put, app, aa, af, zE, zS, D])
    refine ad rfl fun K0 V => ?_
    refine aW (h := aG (nh (d.nx.getD k []) (by omega))) rfl rfl (by first | exact rfl | (simp only [ev, Y, lkp, zE, reduceCtorEq, E, Z, D]; exact rfl)) (by simp only [zE, zG, op1, ev, lkp, ah, ag, au, acs, ba, mv1, mvC, Ty.dflt, reduceCtorEq, E, D, J, U, O, S, Dfa.av, List.length_take]) ?_
    refine V _ ?_; clear V K0; simp only [put, app, aa, af, zE, zS, D]
    iterate 4 (refine ad rfl fun K0 V => ?_; simp only [zE, op1, ev, lkp, ah, ag, bn, bh, ch, rep, aL, aQ, au, Ty.size, aH, bu, bb, aY, aZ, br, Nat.div_one, aM, b0, dite_true, aw, bj, Nat.mul_one, acs, Ty.dflt, zG, reduceCtorEq, E, D, J, U, O, S, Try.el22, Try.st25, Try.td1, Try.td2, Try.td22, Try.td25, Dfa.av, List.length_take]; (repeat refine And.intro (by first | omega | assumption | exact rfl) ?_); (first | refine V _ ?_ | refine Or.inl (V _ ?_)); clear V K0; simp only [put, app, aa, af, zE, zS, D])
    refine aj ?_
    refine ⟨by kernel_rfl, ?_⟩
    refine hK16 _ ?_; clear hK16; refine ae [1, 2, 3, 5, 6, 7, 20, 21, 22, 23] ?_; simp only [Y, lkp, zE, reduceCtorEq, E, Z, D]
    refine bY hP hN Try.mixed rfl ?_
    iterate 12 (refine ad rfl fun K0 V => ?_; simp only [zE, op1, ev, lkp, ah, ag, aw, az, Nat.mul_one, ax, ay, acs, Ty.dflt, zG, ao, aJ, Ty.size, ne_eq, not_false_eq_true, Int.natCast_one, Int.mul_one, gG, bn, bh, ch, rep, aL, aQ, au, aH, bu, bb, aY, aZ, br, Nat.div_one, aM, b0, dite_true, bj, reduceCtorEq, E, D, J, U, O, S, Try.el23, Try.st25, Try.td1, Try.td23, Try.td25, Try.td3, Try.td4, Dfa.av, List.length_map, List.length_take]; (repeat refine And.intro (by first | omega | assumption | exact rfl) ?_); (first | refine V _ ?_ | refine Or.inl (V _ ?_)); clear V K0; simp only [put, app, aa, af, zE, zS, D])
    refine aj ?_
    refine ⟨by kernel_rfl, ?_⟩
    refine hK14 _ ?_; clear hK14; refine ae [1, 2, 3, 5, 6, 7, 20, 21, 22, 23] ?_; simp only [Y, lkp, zE, reduceCtorEq, E, Z, D]
    refine ai hP hN rfl ?_
    iterate 2 (refine ad rfl fun K0 V => ?_; simp only [zE, op1, ev, lkp, ah, ag, aE, aC, aD, ar, aB, aN, reduceCtorEq, E, D, J, U, O, S, Try.td3, Dfa.av]; (repeat refine And.intro (by first | omega | assumption | exact rfl) ?_); refine V _ ?_; clear V K0; simp only [put, app, aa, af, zE, zS, D])
    refine aj ?_
    refine ⟨_, _, ?_, aO [1, 2, 3, 5, 20, 21, 22], k + 1, v + 1, by omega, rfl, ?_⟩
    · omega
    · rw [eK [] (by omega), dK _ false (by omega)]; rfl
   ·(try simp only [zB, reduceCtorEq] at hc13)
    refine bD ?_
    refine hK8 _ ?_; clear hK8; refine ae [1, 2, 3, 5, 20, 21, 22, 23] ?_; simp only [Y, lkp, zE, reduceCtorEq, E, Z, D]
    refine ab fun K17 hK17 => ?_
    refine cB 3 2 rfl rfl ?_; simp only [List.map_cons, List.map_nil, frC, zS, E, and_self, and_true, true_and, and_false, false_and, if_true, if_false, eq_self, reduceCtorEq, Nat.one_ne_zero, Nat.zero_ne_one]
    refine cB 4 2 rfl rfl ?_; simp only [List.map_cons, List.map_nil, frC, zS, E, and_self, and_true, true_and, and_false, false_and, if_true, if_false, eq_self, reduceCtorEq, Nat.one_ne_zero, Nat.zero_ne_one]
    obtain rfl : k = d.nx.length := by omega
    rw [List.take_length, show d.acc.take d.nx.length = d.acc from List.take_of_length_le (by omega)]
    refine ai hP hN rfl ?_
    iterate 3 (refine ad rfl fun K0 V => ?_; simp only [zE, op1, ev, lkp, ah, ag, az, Nat.mul_one, ax, ay, acs, Ty.dflt, zG, ao, bj, au, aQ, aL, Ty.size, reduceCtorEq, E, D, J, U, O, S, Try.st25, Try.td25, Try.td29, Dfa.av]; (repeat refine And.intro (by first | omega | assumption | exact rfl) ?_); refine V _ ?_; clear V K0; simp only [put, app, aa, af, zE, zS, D])
    refine aj ?_
    refine hK17 _ ?_; clear hK17; refine ae [1, 2, 3, 5, 20, 21, 22, 23] ?_; simp only [Y, lkp, zE, reduceCtorEq, E, Z, D]
    refine aI ?_
    refine ⟨by first | exact .inl rfl | exact .inr rfl, _, rfl, ?_⟩; simp only [fzV, fz1, fzC, List.map_cons, List.map_nil, Y, lkp, zE, reduceCtorEq, E, Z, D, Dfa.av]
    first
    | (rw [sK (by assumption)]; exact bz ⟨bU ⟨.refl _, .refl _, aT rfl, aT rfl, trivial⟩, aR (.refl _), trivial⟩)
    | (rw [sM hv, hv]; exact VLE.of_eq rfl)
end Go.Proofs.Ytdkgcbhbpdbmnaa
namespace Go.AV
open Nat renaming reduceEqDiff → E, reduceAdd → D, reduceLeDiff → J, reduceLT → U, reduceMul → O, reduceSub → S
open List renaming set_cons_zero → aq, set_cons_succ → am
/-plain-/
def prL (f : Nat → Int) (n s : Nat) (x : Int) : List Int := (List.range n).map fun q => if q < s then f q else if q = s then x else 0
theorem ex (f : Nat → Int) (n s : Nat) (x : Int) : (prL f n s x).length = n := by simp [prL]
theorem mF {f : Nat → Int} {n s : Nat} (h : s < n) (x z : Int) : (prL f n s x).getD s z = x := by simp [prL, List.getD, h]
theorem dS {f : Nat → Int} {n s : Nat} (h : s < n) (x y : Int) : (prL f n s x).set s y = prL f n s y := by
  refine List.ext_getElem (by simp [prL]) fun i h1 h2 => ?_
  simp only [prL, List.getElem_set, List.getElem_map, List.getElem_range]
  by_cases e : s = i
  · subst e; simp
  · rw [if_neg e, if_neg (Ne.symm e), if_neg (Ne.symm e)]
theorem cZ (f : Nat → Int) (n s : Nat) : prL f n s (f s) = prL f n (s + 1) 0 := by
  unfold prL
  refine List.map_congr_left fun q _ => ?_
  by_cases e : q = s
  · subst e; simp
  · by_cases e2 : q < s
    · rw [if_pos e2, if_pos (by omega)]
    · rw [if_neg e2, if_neg e, if_neg (by omega)]; split <;> rfl
theorem lx (f : Nat → Int) (n : Nat) : prL f n 0 0 = List.replicate n 0 := by
  refine List.ext_getElem (by simp [prL]) fun i h1 h2 => ?_
  simp [prL]
theorem io (f : Nat → Int) (n : Nat) (x : Int) : prL f n n x = (List.range n).map f := by
  unfold prL
  refine List.map_congr_left fun q hq => ?_
  rw [if_pos (List.mem_range.1 hq)]
theorem rr {d : Dfa} {l : List Int} {j : Nat} (h : j < l.length) (ha : d.ac (l.getD j 0) = true) : d.om1 (l.take (j + 1)) = d.om1 (l.take j) ++ [1] := by
  unfold Dfa.om1; rw [dK _ 0 h, if_pos ha]
theorem qc {d : Dfa} {l : List Int} {j : Nat} (h : j < l.length) (ha : d.ac (l.getD j 0) = false) : d.om1 (l.take (j + 1)) = d.om1 (l.take j) ++ [0] := by
  unfold Dfa.om1; rw [dK _ 0 h, if_neg (by rw [ha]; decide)]
theorem jx (d : Dfa) (l : List Int) : (d.om1 l).length = l.length := by simp [Dfa.om1]
theorem js (d : Dfa) : d.om.length = d.nx.length := by simp [Dfa.om]
theorem rk {d : Dfa} {k : Nat} (h : k < d.nx.length) : d.om.take (k + 1) = d.om.take k ++ [d.om1 (d.nx.getD k [])] := by
  unfold Dfa.om
  rw [← List.map_take, ← List.map_take, dK _ [] h]
theorem s7 (d : Dfa) : d.om.take d.nx.length = d.om := List.take_of_length_le (by rw [js]; exact Nat.le_refl _)
/-! Counting. -/
def MX1 : Int := 4611686018427387905
def bI1 (b : Bool) : Int := if b = true then 1 else 0
def dj (c row : List Int) (k : Nat) : Int := (row.take k).foldl (fun x t => min (x + c.getD t.toNat 0) MX1) 0
theorem fB {c row : List Int} {k : Nat} (h : k < row.length) : dj c row (k + 1) = min (dj c row k + c.getD (row.getD k 0).toNat 0) MX1 := by
  unfold dj
  rw [List.take_add_one, List.getElem?_eq_getElem h, Option.toList_some, List.foldl_append]
  simp [List.getD, h]
def oq (c : List Int) : Prop := ∀ q : Nat, 0 ≤ c.getD q 0 ∧ c.getD q 0 ≤ MX1
theorem gn {c : List Int} (hc : oq c) (row : List Int) : ∀ k, 0 ≤ dj c row k ∧ dj c row k ≤ MX1
  | 0 => by unfold dj MX1; simp
  | k + 1 => by
    rcases Nat.lt_or_ge k row.length with h | h
    · rw [fB h]
      have := gn hc row k
      have := hc (row.getD k 0).toNat
      unfold MX1 at *; omega
    · have : dj c row (k + 1) = dj c row k := by unfold dj; rw [List.take_of_length_le (by omega), List.take_of_length_le (by omega)]
      rw [this]; exact gn hc row k
theorem gL {c : List Int} (hc : oq c) {row : List Int} {k : Nat} (h : dj c row k = MX1) : ∀ j, k ≤ j → dj c row j = MX1
  | 0, hk => by have : k = 0 := by omega
                rw [this] at h; exact h
  | j + 1, hk => by
    rcases Nat.lt_or_ge k (j + 1) with h1 | h1
    · have ih := gL hc h j (by omega)
      rcases Nat.lt_or_ge j row.length with h2 | h2
      · rw [fB h2, ih]
        have := hc (row.getD j 0).toNat
        omega
      · have : dj c row (j + 1) = dj c row j := by unfold dj; rw [List.take_of_length_le (by omega), List.take_of_length_le (by omega)]
        rw [this]; exact ih
    · have : k = j + 1 := by omega
      rw [← this]; exact h
def gE (d : Dfa) (c : List Int) (s : Nat) : Int := dj c (d.nx.getD s []) (d.nx.getD s []).length
def fi (d : Dfa) (s : Nat) : Int := bI1 (d.acc.getD s false)
def cL (d : Dfa) : Nat → List Int
  | 0 => (List.range d.nx.length).map (fi d)
  | n + 1 => (List.range d.nx.length).map (gE d (cL d n))
theorem fc (d : Dfa) : ∀ n, (cL d n).length = d.nx.length
  | 0 => by simp [cL]
  | n + 1 => by simp [cL]
theorem kN {f : Nat → Int} {n : Nat} (h : ∀ q, 0 ≤ f q ∧ f q ≤ MX1) : oq ((List.range n).map f) := fun q => by
  by_cases hq : q < n
  · rw [ib f 0 hq]; exact h q
  · have : ((List.range n).map f).getD q 0 = 0 := by simp [List.getD, hq]
    rw [this]; unfold MX1; omega
theorem fa (d : Dfa) : ∀ n, oq (cL d n)
  | 0 => kN fun q => by unfold fi bI1 MX1; split <;> omega
  | n + 1 => kN fun q => gn (fa d n) _ _
def cuE (d : Dfa) (n : Int) : Int := if ¬ bo d = 0 then bo d else if n < 0 ∨ 1024 < n then 2 else if 4611686018427387904 < (cL d n.toNat).getD d.st.toNat 0 then 17 else 0
def cuV (d : Dfa) (n : Int) : Int := if cuE d n = 0 then (cL d n.toNat).getD d.st.toNat 0 else 0
theorem oB {d : Dfa} {n : Int} (h : ¬ bo d = 0) : cuE d n = bo d ∧ cuV d n = 0 := by
  have e : cuE d n = bo d := if_pos h
  exact ⟨e, by unfold cuV; rw [e, if_neg h]⟩
theorem oy {d : Dfa} {n : Int} (h : bo d = 0) (h2 : n < 0 ∨ 1024 < n) : cuE d n = 2 ∧ cuV d n = 0 := by
  have e : cuE d n = 2 := by unfold cuE; rw [if_neg (fun k => k h), if_pos h2]
  exact ⟨e, by unfold cuV; rw [e, if_neg (by decide)]⟩
theorem ox {d : Dfa} {n : Int} (h : bo d = 0) (h2 : ¬ (n < 0 ∨ 1024 < n)) (h3 : 4611686018427387904 < (cL d n.toNat).getD d.st.toNat 0) : cuE d n = 17 ∧ cuV d n = 0 := by
  have e : cuE d n = 17 := by unfold cuE; rw [if_neg (fun k => k h), if_neg h2, if_pos h3]
  exact ⟨e, by unfold cuV; rw [e, if_neg (by decide)]⟩
theorem lM {d : Dfa} {n : Int} (h : bo d = 0) (h2 : ¬ (n < 0 ∨ 1024 < n)) (h3 : ¬ 4611686018427387904 < (cL d n.toNat).getD d.st.toNat 0) : cuE d n = 0 ∧ cuV d n = (cL d n.toNat).getD d.st.toNat 0 := by
  have e : cuE d n = 0 := by unfold cuE; rw [if_neg (fun k => k h), if_neg h2, if_neg h3]
  exact ⟨e, by unfold cuV; rw [if_pos e]⟩
end Go.AV
namespace Go.AV
open Nat renaming reduceEqDiff → E, reduceAdd → D, reduceLeDiff → J, reduceLT → U, reduceMul → O, reduceSub → S
open List renaming set_cons_zero → aq, set_cons_succ → am
/-plain-/
theorem lR {d : Dfa} {k n : Nat} (hk : k < n) (h : d.acc.getD k false = true) : (prL (fi d) n k 0).set k 1 = prL (fi d) n (k + 1) 0 := by
  rw [dS hk, ← cZ]; unfold fi bI1; rw [if_pos h]
theorem lW {d : Dfa} {k n : Nat} (h : d.acc.getD k false = false) : prL (fi d) n k 0 = prL (fi d) n (k + 1) 0 := by
  rw [← cZ]; congr 1; unfold fi bI1; rw [if_neg (by rw [h]; decide)]
end Go.AV
namespace Go.Proofs.Ytdkgcbhbpdbmnaa
open Go Go.AV
open Nat renaming reduceEqDiff → E, reduceAdd → D, reduceLeDiff → J, reduceLT → U, reduceMul → O, reduceSub → S
open List renaming set_cons_zero → aq, set_cons_succ → am
set_option maxRecDepth 100000 in
set_option maxHeartbeats 1000000 in
theorem pH (d : Dfa) (n : Int) : bJ Try.prog 28 [d.av, .one (.int .i64 n)] (.tup [.one (.int .i64 (cuV d n)), .one (.int .i64 (cuE d n))]) := by
 refine aS Try.func28 rfl (by kernel_rfl) (Nat.le_of_ble_eq_true rfl) rfl fun C hP hN hB => ?_
 replace hN : C.N = 101 := hN
 simp only [Z, D]
 refine ab fun K1 hK1 => ?_
 refine ai hP hN rfl ?_
 iterate 3 (refine ad rfl fun K0 V => ?_; simp only [zE, op1, ev, lkp, ah, ag, c0, au, reduceCtorEq, E, D, J, U, O, S, Try.st25, Try.td25, Try.td29, Try.td3, Dfa.av]; (repeat refine And.intro (by first | omega | assumption | exact rfl) ?_); refine V _ ?_; clear V K0; simp only [put, app, aa, af, zE, zS, D])
 refine aj ?_
 refine hK1 _ ?_; clear hK1; refine ae [0, 1, 2, 4, 5] ?_; simp only [Y, lkp, zE, reduceCtorEq, E, Z, D]
 refine ab fun K2 hK2 => ?_
 refine ab fun K3 hK3 => ?_
 refine ai hP hN rfl ?_
 (refine ad rfl fun K0 V => ?_; simp only [zE, op1, ev, lkp, ah, ag, az, Nat.mul_one, ax, ay, acs, Ty.dflt, zG, ao, reduceCtorEq, E, D, J, U, O, S, Try.st25, Try.td25, Dfa.av]; (repeat refine And.intro (by first | omega | assumption | exact rfl) ?_); refine V _ ?_; clear V K0; simp only [put, app, aa, af, zE, zS, D])
 refine ad rfl fun K0 V => ?_
 refine aW (h := aG (dt d)) rfl rfl (by first | exact rfl | (simp only [ev, Y, lkp, zE, reduceCtorEq, E, Z, D]; exact rfl)) (by simp only [zE, zG, op1, ev, lkp, ah, ag, au, acs, ba, mv1, mvC, Ty.dflt, reduceCtorEq, E, D, J, U, O, S, Dfa.av]) ?_
 refine V _ ?_; clear V K0; simp only [put, app, aa, af, zE, zS, D]
 (refine ad rfl fun K0 V => ?_; simp only [zE, op1, ev, lkp, ah, ag, ev, reduceCtorEq, E, D, J, U, O, S, Try.td29, Dfa.av]; refine V _ ?_; clear V K0; simp only [put, app, aa, af, zE, zS, D])
 refine aj ?_
 refine hK3 _ ?_; clear hK3; refine ae [0, 1, 2, 4, 5, 6] ?_; simp only [Y, lkp, zE, reduceCtorEq, E, Z, D]
 refine ab fun K4 hK4 => ?_
 refine ai hP hN rfl ?_
 iterate 2 (refine ad rfl fun K0 V => ?_; simp only [zE, op1, ev, lkp, ah, ag, aE, aC, aD, ar, aB, aN, reduceCtorEq, E, D, J, U, O, S, Try.td29, Try.td4, Dfa.av]; (repeat refine And.intro (by first | omega | assumption | exact rfl) ?_); refine V _ ?_; clear V K0; simp only [put, app, aa, af, zE, zS, D])
 refine aj ?_
 refine hK4 _ ?_; clear hK4; refine ae [0, 1, 2, 4, 5, 6, 18] ?_; simp only [Y, lkp, zE, reduceCtorEq, E, Z, D]
 refine aF (by simp only [ev, Y, lkp, zE, reduceCtorEq, E, Z, D]; exact rfl) (fun hc5 => ?_) (fun hc5 => ?_)
 ·(try simp only [zB, reduceCtorEq] at hc5)
  refine ab fun K6 hK6 => ?_
  refine ai hP hN rfl ?_
  iterate 3 (refine ad rfl fun K0 V => ?_; simp only [zE, op1, ev, lkp, ah, ag, ev, reduceCtorEq, E, D, J, U, O, S, Try.td29, Try.td3, Dfa.av]; refine V _ ?_; clear V K0; simp only [put, app, aa, af, zE, zS, D])
  refine aj ?_
  refine hK6 _ ?_; clear hK6; refine ae [0, 1, 2, 4, 5, 6, 18] ?_; simp only [Y, lkp, zE, reduceCtorEq, E, Z, D]
  refine aI ?_
  refine ⟨by first | exact .inl rfl | exact .inr rfl, _, rfl, ?_⟩; simp only [fzV, fz1, fzC, List.map_cons, List.map_nil, Y, lkp, zE, reduceCtorEq, E, Z, D, Dfa.av]
  refine VLE.of_eq ?_
  first
  | (have g9 := oB (n := n) (by assumption); obtain ⟨g1, g2⟩ := g9; rw [g1, g2])
  | (have g9 := oy hv (n := n) (by omega); obtain ⟨g1, g2⟩ := g9; rw [g1, g2])
  | (have g9 := ox hv (n := n) (by omega) (by assumption); obtain ⟨g1, g2⟩ := g9; rw [g1, g2])
  | (have g9 := lM hv (n := n) (by omega) (by omega); obtain ⟨g1, g2⟩ := g9; rw [g1, g2])
 ·(try simp only [zB, reduceCtorEq] at hc5)
  have hv : bo d = 0 := by omega
  have hd := ef hv; have a1 := hd.i1; have a2 := hd.i2; have a3 := hd.n1; have a4 := hd.n2; have a5 := hd.s1; have a6 := hd.s2; have a7 := hd.al
  refine aK ?_
  refine hK2 _ ?_; clear hK2; refine ae [0, 1, 2, 4, 5, 6, 18] ?_; simp only [Y, lkp, zE, reduceCtorEq, E, Z, D]
  refine ab fun K7 hK7 => ?_
  refine ab fun K8 hK8 => ?_
  refine ai hP hN rfl ?_
  iterate 2 (refine ad rfl fun K0 V => ?_; simp only [zE, op1, ev, lkp, ah, ag, aE, aC, aD, ar, aB, aN, reduceCtorEq, E, D, J, U, O, S, Try.td3, Try.td4, Dfa.av]; (repeat refine And.intro (by first | omega | assumption | exact rfl) ?_); refine V _ ?_; clear V K0; simp only [put, app, aa, af, zE, zS, D])
  (refine ad rfl fun K0 V => ?_; simp only [zE, op1, ev, lkp, ah, ag, ev, reduceCtorEq, E, D, J, U, O, S, Try.td4, Dfa.av]; refine V _ ?_; clear V K0; simp only [put, app, aa, af, zE, zS, D])
  refine' aU (want := false) 2 rfl (m := 22) (by simp only [Y, lkp, zE, reduceCtorEq, E, Z, D]; exact rfl) (by kernel_rfl) rfl rfl rfl rfl rfl (fun hg9 => ?a9) ?b9 ?c9
  case a9 =>
   have hq9 := hg9; (try simp only [zB, reduceCtorEq] at hg9); simp only [List.take_succ_cons, List.take_zero, List.cons_append, List.nil_append]
   (refine aA rfl fun K0 V => ?_; simp only [zE, op1, ev, lkp, ah, ag, ev, reduceCtorEq, E, D, J, U, O, S, Try.td3, Dfa.av]; refine V _ ?_; clear V K0; simp only [put, app, aa, af, zE, zS, D])
   (refine aA rfl fun K0 V => ?_; simp only [zE, op1, ev, lkp, ah, ag, aE, aC, aD, ar, aB, aN, reduceCtorEq, E, D, J, U, O, S, Try.td3, Try.td4, Dfa.av]; (repeat refine And.intro (by first | omega | assumption | exact rfl) ?_); refine V _ ?_; clear V K0; simp only [put, app, aa, af, zE, zS, D])
   (refine ad rfl fun K0 V => ?_; simp only [zE, op1, ev, lkp, ah, ag, bm, reduceCtorEq, E, D, J, U, O, S, Try.td4, Dfa.av]; refine V _ ?_; clear V K0; simp only [put, app, aa, af, zE, zS, D])
   refine aj ?_
   refine ⟨by simp only [Y, lkp, zE, reduceCtorEq, E, Z, D]; exact rfl, rfl, ?_, rfl⟩; (repeat refine aV rfl ?_); exact bt (by exact rfl) hq9
  case b9 => exact bq (by first | rfl | (simp [bS]; done) | decide)
  simp only [bg, aX]
  refine aj ?_
  refine hK8 _ ?_; clear hK8; refine ae [0, 1, 2, 4, 5, 6, 18, 25] ?_; simp only [Y, lkp, zE, reduceCtorEq, E, Z, D]
  refine aF (by simp only [ev, Y, lkp, zE, reduceCtorEq, E, Z, D]; exact rfl) (fun hc10 => ?_) (fun hc10 => ?_)
  ·(try simp only [zB, reduceCtorEq] at hc10)
   refine ab fun K11 hK11 => ?_
   refine ai hP hN rfl ?_
   iterate 2 (refine ad rfl fun K0 V => ?_; simp only [zE, op1, ev, lkp, ah, ag, ev, reduceCtorEq, E, D, J, U, O, S, Try.td29, Try.td3, Dfa.av]; refine V _ ?_; clear V K0; simp only [put, app, aa, af, zE, zS, D])
   refine aj ?_
   refine hK11 _ ?_; clear hK11; refine ae [0, 1, 2, 4, 5, 6, 18, 25] ?_; simp only [Y, lkp, zE, reduceCtorEq, E, Z, D]
   refine aI ?_
   refine ⟨by first | exact .inl rfl | exact .inr rfl, _, rfl, ?_⟩; simp only [fzV, fz1, fzC, List.map_cons, List.map_nil, Y, lkp, zE, reduceCtorEq, E, Z, D, Dfa.av]
   refine VLE.of_eq ?_
   first
   | (have g9 := oB (n := n) (by assumption); obtain ⟨g1, g2⟩ := g9; rw [g1, g2])
   | (have g9 := oy hv (n := n) (by omega); obtain ⟨g1, g2⟩ := g9; rw [g1, g2])
   | (have g9 := ox hv (n := n) (by omega) (by assumption); obtain ⟨g1, g2⟩ := g9; rw [g1, g2])
   | (have g9 := lM hv (n := n) (by omega) (by omega); obtain ⟨g1, g2⟩ := g9; rw [g1, g2])
  ·(try simp only [zB, reduceCtorEq] at hc10)
   have hn : ¬ (n < 0 ∨ 1024 < n) := by omega
   refine aK ?_
   refine hK7 _ ?_; clear hK7; refine ae [0, 1, 2, 4, 5, 6, 18, 25] ?_; simp only [Y, lkp, zE, reduceCtorEq, E, Z, D]
   refine ab fun K12 hK12 => ?_
   refine ai hP hN rfl ?_
   iterate 5 (refine ad rfl fun K0 V => ?_; simp only [zE, op1, ev, lkp, ah, ag, aw, az, Nat.mul_one, ax, ay, acs, Ty.dflt, zG, ao, aH, bu, bb, aY, aZ, br, Nat.div_one, aM, b0, Ty.size, aL, dite_true, cD, reduceCtorEq, E, D, J, U, O, S, Try.el22, Try.el26, Try.st25, Try.td2, Try.td22, Try.td25, Try.td26, Try.td3, Dfa.av]; (repeat refine And.intro (by first | omega | assumption | exact rfl) ?_); (first | refine V _ ?_ | refine Or.inl (V _ ?_)); clear V K0; simp only [put, app, aa, af, zE, zS, D])
   refine aj ?_
   refine hK12 _ ?_; clear hK12; refine ae [0, 1, 2, 4, 5, 6, 7, 18, 25] ?_; simp only [Y, lkp, zE, reduceCtorEq, E, Z, D]
   refine ab fun K13 hK13 => ?_
   refine ab fun K14 hK14 => ?_
   refine ai hP hN rfl ?_
   iterate 4 (refine ad rfl fun K0 V => ?_; simp only [zE, op1, ev, lkp, ah, ag, aw, az, Nat.mul_one, ax, ay, acs, Ty.dflt, zG, ao, aH, bu, bb, aY, aZ, br, Nat.div_one, aM, b0, Ty.size, aL, dite_true, reduceCtorEq, E, D, J, U, O, S, Try.el23, Try.st25, Try.td23, Try.td25, Try.td3, Dfa.av]; (repeat refine And.intro (by first | omega | assumption | exact rfl) ?_); (first | refine V _ ?_ | refine Or.inl (V _ ?_)); clear V K0; simp only [put, app, aa, af, zE, zS, D])
   refine aj ?_
   refine hK14 _ ?_; clear hK14; refine ae [0, 1, 2, 4, 5, 6, 7, 18, 25, 31, 32, 33] ?_; simp only [Y, lkp, zE, reduceCtorEq, E, Z, D]
   refine aP ?_
   refine bG (fun n15 s15 => ∃ (k : Nat), (k ≤ d.acc.length) ∧ n15 = d.acc.length - k ∧ s15 = { env := [(1, .one (.int .i64 n)), (2, .one (.ptr 0 0 0 0)), (4, .one (.int .i64 0)), (5, .one (.int .i64 0)), (7, .one (.row 1 0)), (31, .one (.list .bool d.acc)), (32, .one (.int .i64 (d.acc.length : Int))), (33, .one (.int .i64 (k : Int)))], L := [.vars 25 [.int .i64 d.inp, .int .i64 d.st, .list (.list (.int .i64)) d.nx, .list .bool d.acc], .row (.int .i64) 3 0 (prL (fi d) d.nx.length k 0)] }) ?_ ?_
   ·exact ⟨_, _, aO [1, 2, 4, 5, 7, 31, 32, 33], 0, Nat.zero_le _, rfl, by rw [lx]; rfl⟩
   ·rintro n15 s15 ⟨k, hk, rfl, rfl⟩
    refine ab fun K16 hK16 => ?_
    refine ai hP hN rfl ?_
    (refine ad rfl fun K0 V => ?_; simp only [zE, op1, ev, lkp, ah, ag, aE, aC, aD, ar, aB, aN, reduceCtorEq, E, D, J, U, O, S, Try.td3, Dfa.av]; (repeat refine And.intro (by first | omega | assumption | exact rfl) ?_); refine V _ ?_; clear V K0; simp only [put, app, aa, af, zE, zS, D])
    refine aj ?_
    refine hK16 _ ?_; clear hK16; refine ae [1, 2, 4, 5, 7, 31, 32, 33, 34] ?_; simp only [Y, lkp, zE, reduceCtorEq, E, Z, D]
    refine ab fun K17 hK17 => ?_
    refine aF (by simp only [ev, Y, lkp, zE, reduceCtorEq, E, Z, D]; exact rfl) (fun hc18 => ?_) (fun hc18 => ?_)
    ·(try simp only [zB, reduceCtorEq] at hc18)
     refine aK ?_
     refine hK17 _ ?_; clear hK17; refine ae [1, 2, 4, 5, 7, 31, 32, 33, 34] ?_; simp only [Y, lkp, zE, reduceCtorEq, E, Z, D]
     refine ab fun K19 hK19 => ?_
     refine aP ?_
     refine ab fun K20 hK20 => ?_
     refine ai hP hN rfl ?_
     iterate 5 (refine ad rfl fun K0 V => ?_; simp only [zE, op1, ev, lkp, ah, ag, aJ, zG, Ty.dflt, Ty.size, Nat.mul_one, ne_eq, not_false_eq_true, Int.natCast_one, Int.mul_one, az, ax, ay, acs, ao, reduceCtorEq, E, D, J, U, O, S, Try.el23, Try.td23, Try.td3, Try.td4, Dfa.av]; (repeat refine And.intro (by first | omega | assumption | exact rfl) ?_); refine V _ ?_; clear V K0; simp only [put, app, aa, af, zE, zS, D])
     refine aj ?_
     refine hK20 _ ?_; clear hK20; refine ae [1, 2, 4, 5, 7, 8, 9, 31, 32, 33, 34] ?_; simp only [Y, lkp, zE, reduceCtorEq, E, Z, D]
     refine ab fun K21 hK21 => ?_
     refine ai hP hN rfl ?_
     (refine ad rfl fun K0 V => ?_; simp only [zE, op1, ev, lkp, ah, ag, ev, reduceCtorEq, E, D, J, U, O, S, Try.td4, Dfa.av]; refine V _ ?_; clear V K0; simp only [put, app, aa, af, zE, zS, D])
     refine aj ?_
     refine hK21 _ ?_; clear hK21; refine ae [1, 2, 4, 5, 7, 8, 9, 31, 32, 33, 34, 38] ?_; simp only [Y, lkp, zE, reduceCtorEq, E, Z, D]
     refine aF (by simp only [ev, Y, lkp, zE, reduceCtorEq, E, Z, D]; exact rfl) (fun hc22 => ?_) (fun hc22 => ?_)
     ·(try simp only [zB, reduceCtorEq] at hc22)
      have hat : d.acc.getD k false = true := hc22
      refine ai hP hN rfl ?_
      iterate 4 (refine ad rfl fun K0 V => ?_; simp only [zE, op1, ev, lkp, ah, ag, aJ, zG, Ty.dflt, Ty.size, Nat.mul_one, ne_eq, not_false_eq_true, Int.natCast_one, Int.mul_one, bj, au, aQ, aL, acs, reduceCtorEq, E, D, J, U, O, S, Try.el26, Try.td26, Try.td3, Dfa.av, ex]; (repeat refine And.intro (by first | omega | assumption | exact rfl) ?_); refine V _ ?_; clear V K0; simp only [put, app, aa, af, zE, zS, D])
      refine aj ?_
      refine hK19 _ ?_; clear hK19; refine ae [1, 2, 4, 5, 7, 8, 9, 31, 32, 33, 34, 38] ?_; simp only [Y, lkp, zE, reduceCtorEq, E, Z, D]
      refine ai hP hN rfl ?_
      iterate 2 (refine ad rfl fun K0 V => ?_; simp only [zE, op1, ev, lkp, ah, ag, aE, aC, aD, ar, aB, aN, reduceCtorEq, E, D, J, U, O, S, Try.td3, Dfa.av]; (repeat refine And.intro (by first | omega | assumption | exact rfl) ?_); refine V _ ?_; clear V K0; simp only [put, app, aa, af, zE, zS, D])
      refine aj ?_
      first
      | (refine ⟨_, _, ?_, aO [1, 2, 4, 5, 7, 31, 32, 33], k + 1, by omega, rfl, ?_⟩
         · omega
         · rw [← lR (by omega) hat]; rfl)
      | (refine ⟨_, _, ?_, aO [1, 2, 4, 5, 7, 31, 32, 33], k + 1, by omega, rfl, ?_⟩
         · omega
         · rw [← lW hat]; rfl)
     ·(try simp only [zB, reduceCtorEq] at hc22)
      have hat : d.acc.getD k false = false := by simpa using hc22
      refine aK ?_
      refine hK19 _ ?_; clear hK19; refine ae [1, 2, 4, 5, 7, 8, 9, 31, 32, 33, 34, 38] ?_; simp only [Y, lkp, zE, reduceCtorEq, E, Z, D]
      refine ai hP hN rfl ?_
      iterate 2 (refine ad rfl fun K0 V => ?_; simp only [zE, op1, ev, lkp, ah, ag, aE, aC, aD, ar, aB, aN, reduceCtorEq, E, D, J, U, O, S, Try.td3, Dfa.av]; (repeat refine And.intro (by first | omega | assumption | exact rfl) ?_); refine V _ ?_; clear V K0; simp only [put, app, aa, af, zE, zS, D])
      refine aj ?_
      first
      | (refine ⟨_, _, ?_, aO [1, 2, 4, 5, 7, 31, 32, 33], k + 1, by omega, rfl, ?_⟩
         · omega
         · rw [← lR (by omega) hat]; rfl)
      | (refine ⟨_, _, ?_, aO [1, 2, 4, 5, 7, 31, 32, 33], k + 1, by omega, rfl, ?_⟩
         · omega
         · rw [← lW hat]; rfl)
    ·(try simp only [zB, reduceCtorEq] at hc18)
     refine bD ?_
     refine hK13 _ ?_; clear hK13; refine ae [1, 2, 4, 5, 7, 31, 32, 33, 34] ?_; simp only [Y, lkp, zE, reduceCtorEq, E, Z, D]
     refine ab fun K23 hK23 => ?_
     refine ab fun K24 hK24 => ?_
     refine ai hP hN rfl ?_
     iterate 2 (refine ad rfl fun K0 V => ?_; simp only [zE, op1, ev, lkp, ah, ag, ev, reduceCtorEq, E, D, J, U, O, S, Try.td3, Dfa.av]; refine V _ ?_; clear V K0; simp only [put, app, aa, af, zE, zS, D])
     refine aj ?_
     refine hK24 _ ?_; clear hK24; refine ae [1, 2, 4, 5, 7, 31, 32, 33, 34, 43, 44] ?_; simp only [Y, lkp, zE, reduceCtorEq, E, Z, D]
     refine aP ?_
     refine d9 1 rfl ?_; simp only [List.map_cons, List.map_nil, zS, E, and_self, and_true, true_and, and_false, false_and, if_true, if_false, eq_self, reduceCtorEq, Nat.one_ne_zero, Nat.zero_ne_one]
     obtain rfl : k = d.nx.length := by omega
     rw [io, show (List.range d.nx.length).map (fi d) = cL d 0 from rfl]
     refine dP (n := 1) (L1 := [_]) rfl rfl (by rw [hB]; decide) rfl rfl ?_
     refine bG (fun n25 s25 => ∃ (r : Nat), ((r : Int) ≤ n) ∧ n25 = n.toNat - r ∧ s25 = { env := [(2, .one (.ptr 0 0 0 0)), (4, .one (.int .i64 0)), (5, .one (.int .i64 0)), (7, .one (.list (.int .i64) (cL d r))), (43, .one (.int .i64 n)), (44, .one (.int .i64 (r : Int)))], L := [.vars 25 [.int .i64 d.inp, .int .i64 d.st, .list (.list (.int .i64)) d.nx, .list .bool d.acc]] }) ?_ ?_
     ·exact ⟨_, _, aO [2, 4, 5, 7, 43, 44], 0, by omega, rfl, rfl⟩
     ·rintro n25 s25 ⟨r, hr, rfl, rfl⟩
      refine ab fun K26 hK26 => ?_
      refine ai hP hN rfl ?_
      (refine ad rfl fun K0 V => ?_; simp only [zE, op1, ev, lkp, ah, ag, aE, aC, aD, ar, aB, aN, reduceCtorEq, E, D, J, U, O, S, Try.td3, Try.td4, Dfa.av]; (repeat refine And.intro (by first | omega | assumption | exact rfl) ?_); refine V _ ?_; clear V K0; simp only [put, app, aa, af, zE, zS, D])
      refine aj ?_
      refine hK26 _ ?_; clear hK26; refine ae [2, 4, 5, 7, 43, 44, 45] ?_; simp only [Y, lkp, zE, reduceCtorEq, E, Z, D]
      refine ab fun K27 hK27 => ?_
      refine aF (by simp only [ev, Y, lkp, zE, reduceCtorEq, E, Z, D]; exact rfl) (fun hc28 => ?_) (fun hc28 => ?_)
      ·(try simp only [zB, reduceCtorEq] at hc28)
       refine aK ?_
       refine hK27 _ ?_; clear hK27; refine ae [2, 4, 5, 7, 43, 44, 45] ?_; simp only [Y, lkp, zE, reduceCtorEq, E, Z, D]
       refine ab fun K29 hK29 => ?_
       refine aP ?_
       refine ab fun K30 hK30 => ?_
       refine ai hP hN rfl ?_
       iterate 4 (refine ad rfl fun K0 V => ?_; simp only [zE, op1, ev, lkp, ah, ag, aH, bu, bb, aY, aZ, br, Nat.div_one, aM, b0, Ty.size, aL, dite_true, cD, Ty.dflt, reduceCtorEq, E, D, J, U, O, S, Try.el26, Try.td26, Try.td3, Dfa.av, fc]; (repeat refine And.intro (by first | omega | assumption | exact rfl) ?_); (first | refine V _ ?_ | refine Or.inl (V _ ?_)); clear V K0; simp only [put, app, aa, af, zE, zS, D])
       refine aj ?_
       refine hK30 _ ?_; clear hK30; refine ae [2, 4, 5, 7, 10, 43, 44, 45] ?_; simp only [Y, lkp, zE, reduceCtorEq, E, Z, D]
       refine ab fun K31 hK31 => ?_
       refine ab fun K32 hK32 => ?_
       refine ai hP hN rfl ?_
       iterate 4 (refine ad rfl fun K0 V => ?_; simp only [zE, op1, ev, lkp, ah, ag, aw, az, Nat.mul_one, ax, ay, acs, Ty.dflt, zG, ao, aH, bu, bb, aY, aZ, br, Nat.div_one, aM, b0, Ty.size, aL, dite_true, reduceCtorEq, E, D, J, U, O, S, Try.el22, Try.st25, Try.td2, Try.td22, Try.td25, Try.td3, Dfa.av]; (repeat refine And.intro (by first | omega | assumption | exact rfl) ?_); (first | refine V _ ?_ | refine Or.inl (V _ ?_)); clear V K0; simp only [put, app, aa, af, zE, zS, D])
       refine aj ?_
       refine hK32 _ ?_; clear hK32; refine ae [2, 4, 5, 7, 10, 43, 44, 45, 50, 51, 52] ?_; simp only [Y, lkp, zE, reduceCtorEq, E, Z, D]
       refine aP ?_
       refine bG (fun n33 s33 => ∃ (s : Nat), (s ≤ d.nx.length) ∧ n33 = d.nx.length - s ∧ s33 = { env := [(2, .one (.ptr 0 0 0 0)), (4, .one (.int .i64 0)), (5, .one (.int .i64 0)), (7, .one (.list (.int .i64) (cL d r))), (10, .one (.row 1 0)), (43, .one (.int .i64 n)), (44, .one (.int .i64 (r : Int))), (50, .one (.list (.list (.int .i64)) d.nx)), (51, .one (.int .i64 (d.nx.length : Int))), (52, .one (.int .i64 (s : Int)))], L := [.vars 25 [.int .i64 d.inp, .int .i64 d.st, .list (.list (.int .i64)) d.nx, .list .bool d.acc], .row (.int .i64) 3 0 (prL (gE d (cL d r)) d.nx.length s 0)] }) ?_ ?_
       ·exact ⟨_, _, aO [2, 4, 5, 7, 10, 43, 44, 50, 51, 52], 0, by omega, rfl, by rw [lx]; rfl⟩
       ·rintro n33 s33 ⟨s, hs, rfl, rfl⟩
        refine ab fun K34 hK34 => ?_
        refine ai hP hN rfl ?_
        (refine ad rfl fun K0 V => ?_; simp only [zE, op1, ev, lkp, ah, ag, aE, aC, aD, ar, aB, aN, reduceCtorEq, E, D, J, U, O, S, Try.td3, Dfa.av]; (repeat refine And.intro (by first | omega | assumption | exact rfl) ?_); refine V _ ?_; clear V K0; simp only [put, app, aa, af, zE, zS, D])
        refine aj ?_
        refine hK34 _ ?_; clear hK34; refine ae [2, 4, 5, 7, 10, 43, 44, 50, 51, 52, 53] ?_; simp only [Y, lkp, zE, reduceCtorEq, E, Z, D]
        refine ab fun K35 hK35 => ?_
        refine aF (by simp only [ev, Y, lkp, zE, reduceCtorEq, E, Z, D]; exact rfl) (fun hc36 => ?_) (fun hc36 => ?_)
        ·(try simp only [zB, reduceCtorEq] at hc36)
         refine aK ?_
         refine hK35 _ ?_; clear hK35; refine ae [2, 4, 5, 7, 10, 43, 44, 50, 51, 52, 53] ?_; simp only [Y, lkp, zE, reduceCtorEq, E, Z, D]
         refine ab fun K37 hK37 => ?_
         refine aP ?_
         refine ab fun K38 hK38 => ?_
         have hs9 : s < d.nx.length := by omega
         refine ai hP hN rfl ?_
         iterate 5 (refine ad rfl fun K0 V => ?_; simp only [zE, op1, ev, lkp, ah, ag, aJ, zG, Ty.dflt, Ty.size, Nat.mul_one, ne_eq, not_false_eq_true, Int.natCast_one, Int.mul_one, az, ax, ay, acs, ao, reduceCtorEq, E, D, J, U, O, S, Try.el22, Try.el26, Try.td22, Try.td26, Try.td3, Dfa.av]; (repeat refine And.intro (by first | omega | assumption | exact rfl) ?_); refine V _ ?_; clear V K0; simp only [put, app, aa, af, zE, zS, D])
         refine aj ?_
         refine hK38 _ ?_; clear hK38; refine ae [2, 4, 5, 7, 10, 11, 12, 43, 44, 50, 51, 52, 53] ?_; simp only [Y, lkp, zE, reduceCtorEq, E, Z, D]
         refine ab fun K39 hK39 => ?_
         refine ai hP hN rfl ?_
         iterate 3 (refine ad rfl fun K0 V => ?_; simp only [zE, op1, ev, lkp, ah, ag, aH, bu, bb, aY, aZ, br, Nat.div_one, aM, b0, Ty.size, aL, dite_true, reduceCtorEq, E, D, J, U, O, S, Try.el26, Try.td26, Try.td3, Dfa.av]; (repeat refine And.intro (by first | omega | assumption | exact rfl) ?_); (first | refine V _ ?_ | refine Or.inl (V _ ?_)); clear V K0; simp only [put, app, aa, af, zE, zS, D])
         refine aj ?_
         refine hK39 _ ?_; clear hK39; refine ae [2, 4, 5, 7, 10, 11, 12, 43, 44, 50, 51, 52, 53, 57, 58, 59] ?_; simp only [Y, lkp, zE, reduceCtorEq, E, Z, D]
         refine aP ?_
         refine bG (fun n40 s40 => ∃ (j : Nat), (j ≤ (d.nx.getD s []).length) ∧ n40 = (d.nx.getD s []).length - j ∧ s40 = { env := [(2, .one (.ptr 0 0 0 0)), (4, .one (.int .i64 0)), (5, .one (.int .i64 0)), (7, .one (.list (.int .i64) (cL d r))), (10, .one (.row 1 0)), (11, .one (.int .i64 (s : Int))), (12, .one (.list (.int .i64) (d.nx.getD s []))), (43, .one (.int .i64 n)), (44, .one (.int .i64 (r : Int))), (50, .one (.list (.list (.int .i64)) d.nx)), (51, .one (.int .i64 (d.nx.length : Int))), (52, .one (.int .i64 (s : Int))), (57, .one (.list (.int .i64) (d.nx.getD s []))), (58, .one (.int .i64 ((d.nx.getD s []).length : Int))), (59, .one (.int .i64 (j : Int)))], L := [.vars 25 [.int .i64 d.inp, .int .i64 d.st, .list (.list (.int .i64)) d.nx, .list .bool d.acc], .row (.int .i64) 3 0 (prL (gE d (cL d r)) d.nx.length s (dj (cL d r) (d.nx.getD s []) j))] }) ?_ ?_
         ·exact ⟨_, _, aO [2, 4, 5, 7, 10, 11, 12, 43, 44, 50, 51, 52, 57, 58, 59], 0, by omega, rfl, rfl⟩
         ·rintro n40 s40 ⟨j, hj, rfl, rfl⟩
          refine ab fun K41 hK41 => ?_
          refine ai hP hN rfl ?_
          (refine ad rfl fun K0 V => ?_; simp only [zE, op1, ev, lkp, ah, ag, aE, aC, aD, ar, aB, aN, reduceCtorEq, E, D, J, U, O, S, Try.td3, Dfa.av]; (repeat refine And.intro (by first | omega | assumption | exact rfl) ?_); refine V _ ?_; clear V K0; simp only [put, app, aa, af, zE, zS, D])
          refine aj ?_
          refine hK41 _ ?_; clear hK41; refine ae [2, 4, 5, 7, 10, 11, 12, 43, 44, 50, 51, 52, 57, 58, 59, 60] ?_; simp only [Y, lkp, zE, reduceCtorEq, E, Z, D]
          refine ab fun K42 hK42 => ?_
          refine aF (by simp only [ev, Y, lkp, zE, reduceCtorEq, E, Z, D]; exact rfl) (fun hc43 => ?_) (fun hc43 => ?_)
          ·(try simp only [zB, reduceCtorEq] at hc43)
           refine aK ?_
           refine hK42 _ ?_; clear hK42; refine ae [2, 4, 5, 7, 10, 11, 12, 43, 44, 50, 51, 52, 57, 58, 59, 60] ?_; simp only [Y, lkp, zE, reduceCtorEq, E, Z, D]
           refine ab fun K44 hK44 => ?_
           refine aP ?_
           refine ab fun K45 hK45 => ?_
           refine ai hP hN rfl ?_
           iterate 3 (refine ad rfl fun K0 V => ?_; simp only [zE, op1, ev, lkp, ah, ag, aJ, zG, Ty.dflt, Ty.size, Nat.mul_one, ne_eq, not_false_eq_true, Int.natCast_one, Int.mul_one, az, ax, ay, acs, ao, reduceCtorEq, E, D, J, U, O, S, Try.el26, Try.td26, Try.td3, Dfa.av]; (repeat refine And.intro (by first | omega | assumption | exact rfl) ?_); refine V _ ?_; clear V K0; simp only [put, app, aa, af, zE, zS, D])
           refine aj ?_
           refine hK45 _ ?_; clear hK45; refine ae [2, 4, 5, 7, 10, 11, 12, 14, 43, 44, 50, 51, 52, 57, 58, 59, 60] ?_; simp only [Y, lkp, zE, reduceCtorEq, E, Z, D]
           refine ab fun K46 hK46 => ?_
           refine ab fun K47 hK47 => ?_
           have hs9 : s < d.nx.length := by omega
           have hrl : ((d.nx.getD s []).length : Int) = d.inp := hd.rl s hs9
           have hcl : 0 ≤ (d.nx.getD s []).getD j 0 ∧ (d.nx.getD s []).getD j 0 < d.nx.length := hd.cl s j hs9 (by omega)
           have hx := gn (fa d r) (d.nx.getD s []) j; unfold MX1 at hx
           have hct := fa d r ((d.nx.getD s []).getD j 0).toNat; unfold MX1 at hct
           refine bY hP hN Try.mixed rfl ?_
           iterate 10 (refine ad rfl fun K0 V => ?_; simp only [zE, op1, ev, lkp, ah, ag, aJ, zG, Ty.dflt, Ty.size, Nat.mul_one, ne_eq, not_false_eq_true, Int.natCast_one, Int.mul_one, az, ax, ay, acs, ao, aE, aC, aD, ar, aB, aN, reduceCtorEq, E, D, J, U, O, S, Try.el26, Try.td26, Try.td3, Try.td4, Dfa.av, mF hs9, fc, ex]; (repeat refine And.intro (by first | omega | assumption | exact rfl) ?_); refine V _ ?_; clear V K0; simp only [put, app, aa, af, zE, zS, D])
           refine aj ?_
           refine ⟨by kernel_rfl, ?_⟩
           refine hK47 _ ?_; clear hK47; refine ae [2, 4, 5, 7, 10, 11, 12, 14, 43, 44, 50, 51, 52, 57, 58, 59, 60, 72] ?_; simp only [Y, lkp, zE, reduceCtorEq, E, Z, D]
           refine aF (by simp only [ev, Y, lkp, zE, reduceCtorEq, E, Z, D]; exact rfl) (fun hc48 => ?_) (fun hc48 => ?_)
           ·(try simp only [zB, reduceCtorEq] at hc48)
            have hfull : dj (cL d r) (d.nx.getD s []) (j + 1) = MX1 := by rw [fB (by omega)]; have h9 := hc48; unfold MX1; omega
            refine ab fun K49 hK49 => ?_
            refine ai hP hN rfl ?_
            iterate 4 (refine ad rfl fun K0 V => ?_; simp only [zE, op1, ev, lkp, ah, ag, aJ, zG, Ty.dflt, Ty.size, Nat.mul_one, ne_eq, not_false_eq_true, Int.natCast_one, Int.mul_one, bj, au, aQ, aL, acs, reduceCtorEq, E, D, J, U, O, S, Try.el26, Try.td26, Try.td3, Dfa.av, ex]; (repeat refine And.intro (by first | omega | assumption | exact rfl) ?_); refine V _ ?_; clear V K0; simp only [put, app, aa, af, zE, zS, D])
            refine aj ?_
            refine hK49 _ ?_; clear hK49; refine ae [2, 4, 5, 7, 10, 11, 12, 14, 43, 44, 50, 51, 52, 57, 58, 59, 60, 72] ?_; simp only [Y, lkp, zE, reduceCtorEq, E, Z, D]
            refine bD ?_
            refine hK37 _ ?_; clear hK37; refine ae [2, 4, 5, 7, 10, 11, 12, 14, 43, 44, 50, 51, 52, 57, 58, 59, 60, 72] ?_; simp only [Y, lkp, zE, reduceCtorEq, E, Z, D]
            refine ai hP hN rfl ?_
            iterate 2 (refine ad rfl fun K0 V => ?_; simp only [zE, op1, ev, lkp, ah, ag, aE, aC, aD, ar, aB, aN, reduceCtorEq, E, D, J, U, O, S, Try.td3, Dfa.av]; (repeat refine And.intro (by first | omega | assumption | exact rfl) ?_); refine V _ ?_; clear V K0; simp only [put, app, aa, af, zE, zS, D])
            refine aj ?_
            first
            | (refine ⟨_, _, ?_, aO [2, 4, 5, 7, 10, 43, 44, 50, 51, 52], s + 1, by omega, rfl, ?_⟩
               · omega
               · rw [dS hs9, show (4611686018427387905 : Int) = gE d (cL d r) s from (gL (fa d r) hfull _ (by omega)).symm, cZ]; rfl)
            | (refine ⟨_, _, ?_, aO [2, 4, 5, 7, 10, 43, 44, 50, 51, 52], s + 1, by omega, rfl, ?_⟩
               · omega
               · rw [show (dj (cL d r) (d.nx.getD s []) j) = gE d (cL d r) s from by unfold gE; rw [show j = (d.nx.getD s []).length by omega], cZ]; rfl)
           ·(try simp only [zB, reduceCtorEq] at hc48)
            have hsum : dj (cL d r) (d.nx.getD s []) (j + 1) = (dj (cL d r) (d.nx.getD s []) j) + ((cL d r).getD ((d.nx.getD s []).getD j 0).toNat 0) := by rw [fB (by omega)]; have h9 := hc48; unfold MX1; omega
            refine aK ?_
            refine hK46 _ ?_; clear hK46; refine ae [2, 4, 5, 7, 10, 11, 12, 14, 43, 44, 50, 51, 52, 57, 58, 59, 60, 72] ?_; simp only [Y, lkp, zE, reduceCtorEq, E, Z, D]
            refine bY hP hN Try.mixed rfl ?_
            iterate 11 (refine ad rfl fun K0 V => ?_; simp only [zE, op1, ev, lkp, ah, ag, aJ, zG, Ty.dflt, Ty.size, Nat.mul_one, ne_eq, not_false_eq_true, Int.natCast_one, Int.mul_one, az, ax, ay, acs, ao, aE, aC, aD, ar, aB, aN, bj, au, aQ, aL, reduceCtorEq, E, D, J, U, O, S, Try.el26, Try.td26, Try.td3, Dfa.av, mF hs9, fc, ex]; (repeat refine And.intro (by first | omega | assumption | exact rfl) ?_); refine V _ ?_; clear V K0; simp only [put, app, aa, af, zE, zS, D])
            refine aj ?_
            refine ⟨by kernel_rfl, ?_⟩
            refine hK44 _ ?_; clear hK44; refine ae [2, 4, 5, 7, 10, 11, 12, 14, 43, 44, 50, 51, 52, 57, 58, 59, 60, 72] ?_; simp only [Y, lkp, zE, reduceCtorEq, E, Z, D]
            refine ai hP hN rfl ?_
            iterate 2 (refine ad rfl fun K0 V => ?_; simp only [zE, op1, ev, lkp, ah, ag, aE, aC, aD, ar, aB, aN, reduceCtorEq, E, D, J, U, O, S, Try.td3, Dfa.av]; (repeat refine And.intro (by first | omega | assumption | exact rfl) ?_); refine V _ ?_; clear V K0; simp only [put, app, aa, af, zE, zS, D])
            refine aj ?_
            refine ⟨_, _, ?_, aO [2, 4, 5, 7, 10, 11, 12, 43, 44, 50, 51, 52, 57, 58, 59], j + 1, by omega, rfl, ?_⟩
            · omega
            · rw [hsum, dS hs9]; rfl
          ·(try simp only [zB, reduceCtorEq] at hc43)
           refine bD ?_
           refine hK37 _ ?_; clear hK37; refine ae [2, 4, 5, 7, 10, 11, 12, 43, 44, 50, 51, 52, 57, 58, 59, 60] ?_; simp only [Y, lkp, zE, reduceCtorEq, E, Z, D]
           refine ai hP hN rfl ?_
           iterate 2 (refine ad rfl fun K0 V => ?_; simp only [zE, op1, ev, lkp, ah, ag, aE, aC, aD, ar, aB, aN, reduceCtorEq, E, D, J, U, O, S, Try.td3, Dfa.av]; (repeat refine And.intro (by first | omega | assumption | exact rfl) ?_); refine V _ ?_; clear V K0; simp only [put, app, aa, af, zE, zS, D])
           refine aj ?_
           first
           | (refine ⟨_, _, ?_, aO [2, 4, 5, 7, 10, 43, 44, 50, 51, 52], s + 1, by omega, rfl, ?_⟩
              · omega
              · rw [dS hs9, show (4611686018427387905 : Int) = gE d (cL d r) s from (gL (fa d r) hfull _ (by omega)).symm, cZ]; rfl)
           | (refine ⟨_, _, ?_, aO [2, 4, 5, 7, 10, 43, 44, 50, 51, 52], s + 1, by omega, rfl, ?_⟩
              · omega
              · rw [show (dj (cL d r) (d.nx.getD s []) j) = gE d (cL d r) s from by unfold gE; rw [show j = (d.nx.getD s []).length by omega], cZ]; rfl)
        ·(try simp only [zB, reduceCtorEq] at hc36)
         refine bD ?_
         refine hK31 _ ?_; clear hK31; refine ae [2, 4, 5, 7, 10, 43, 44, 50, 51, 52, 53] ?_; simp only [Y, lkp, zE, reduceCtorEq, E, Z, D]
         refine d9 1 rfl ?_; simp only [List.map_cons, List.map_nil, zS, E, and_self, and_true, true_and, and_false, false_and, if_true, if_false, eq_self, reduceCtorEq, Nat.one_ne_zero, Nat.zero_ne_one]
         have hs8 : s = d.nx.length := by omega
         rw [hs8, io, show (List.range d.nx.length).map (gE d (cL d r)) = cL d (r + 1) from rfl]
         refine ai hP hN rfl ?_
         iterate 2 (refine ad rfl fun K0 V => ?_; simp only [zE, op1, ev, lkp, ah, ag, ev, reduceCtorEq, E, D, J, U, O, S, Try.el26, Try.td26, Dfa.av]; refine V _ ?_; clear V K0; simp only [put, app, aa, af, zE, zS, D])
         refine aj ?_
         refine hK29 _ ?_; clear hK29; refine ae [2, 4, 5, 7, 10, 43, 44, 50, 51, 52, 53] ?_; simp only [Y, lkp, zE, reduceCtorEq, E, Z, D]
         refine dP (n := 1) (L1 := [_]) rfl rfl (by rw [hB]; decide) rfl rfl ?_
         refine ai hP hN rfl ?_
         iterate 2 (refine ad rfl fun K0 V => ?_; simp only [zE, op1, ev, lkp, ah, ag, aE, aC, aD, ar, aB, aN, reduceCtorEq, E, D, J, U, O, S, Try.td3, Dfa.av]; (repeat refine And.intro (by first | omega | assumption | exact rfl) ?_); refine V _ ?_; clear V K0; simp only [put, app, aa, af, zE, zS, D])
         refine aj ?_
         refine ⟨_, _, ?_, aO [2, 4, 5, 7, 43, 44], r + 1, by omega, rfl, rfl⟩
         omega
      ·(try simp only [zB, reduceCtorEq] at hc28)
       refine bD ?_
       refine hK23 _ ?_; clear hK23; refine ae [2, 4, 5, 7, 43, 44, 45] ?_; simp only [Y, lkp, zE, reduceCtorEq, E, Z, D]
       refine ab fun K50 hK50 => ?_
       refine ab fun K51 hK51 => ?_
       have hr9 : r = n.toNat := by omega
       subst hr9
       refine ai hP hN rfl ?_
       iterate 6 (refine ad rfl fun K0 V => ?_; simp only [zE, op1, ev, lkp, ah, ag, aw, az, Nat.mul_one, ax, ay, acs, Ty.dflt, zG, ao, aJ, Ty.size, ne_eq, not_false_eq_true, Int.natCast_one, Int.mul_one, aE, aC, aD, ar, aB, aN, reduceCtorEq, E, D, J, U, O, S, Try.el26, Try.st25, Try.td1, Try.td25, Try.td26, Try.td3, Try.td4, Dfa.av, fc]; (repeat refine And.intro (by first | omega | assumption | exact rfl) ?_); refine V _ ?_; clear V K0; simp only [put, app, aa, af, zE, zS, D])
       refine aj ?_
       refine hK51 _ ?_; clear hK51; refine ae [2, 4, 5, 7, 43, 44, 45, 95] ?_; simp only [Y, lkp, zE, reduceCtorEq, E, Z, D]
       refine aF (by simp only [ev, Y, lkp, zE, reduceCtorEq, E, Z, D]; exact rfl) (fun hc52 => ?_) (fun hc52 => ?_)
       ·(try simp only [zB, reduceCtorEq] at hc52)
        refine ab fun K53 hK53 => ?_
        refine ai hP hN rfl ?_
        iterate 2 (refine ad rfl fun K0 V => ?_; simp only [zE, op1, ev, lkp, ah, ag, ev, reduceCtorEq, E, D, J, U, O, S, Try.td29, Try.td3, Dfa.av]; refine V _ ?_; clear V K0; simp only [put, app, aa, af, zE, zS, D])
        refine aj ?_
        refine hK53 _ ?_; clear hK53; refine ae [2, 4, 5, 7, 43, 44, 45, 95] ?_; simp only [Y, lkp, zE, reduceCtorEq, E, Z, D]
        refine aI ?_
        refine ⟨by first | exact .inl rfl | exact .inr rfl, _, rfl, ?_⟩; simp only [fzV, fz1, fzC, List.map_cons, List.map_nil, Y, lkp, zE, reduceCtorEq, E, Z, D, Dfa.av]
        refine VLE.of_eq ?_
        first
        | (have g9 := oB (n := n) (by assumption); obtain ⟨g1, g2⟩ := g9; rw [g1, g2])
        | (have g9 := oy hv (n := n) (by omega); obtain ⟨g1, g2⟩ := g9; rw [g1, g2])
        | (have g9 := ox hv (n := n) (by omega) (by assumption); obtain ⟨g1, g2⟩ := g9; rw [g1, g2])
        | (have g9 := lM hv (n := n) (by omega) (by omega); obtain ⟨g1, g2⟩ := g9; rw [g1, g2])
       ·(try simp only [zB, reduceCtorEq] at hc52)
        refine aK ?_
        refine hK50 _ ?_; clear hK50; refine ae [2, 4, 5, 7, 43, 44, 45, 95] ?_; simp only [Y, lkp, zE, reduceCtorEq, E, Z, D]
        refine ab fun K54 hK54 => ?_
        refine ai hP hN rfl ?_
        iterate 7 (refine ad rfl fun K0 V => ?_; simp only [zE, op1, ev, lkp, ah, ag, aw, az, Nat.mul_one, ax, ay, acs, Ty.dflt, zG, ao, aJ, Ty.size, ne_eq, not_false_eq_true, Int.natCast_one, Int.mul_one, reduceCtorEq, E, D, J, U, O, S, Try.el26, Try.st25, Try.td1, Try.td25, Try.td26, Try.td29, Try.td3, Dfa.av, fc]; (repeat refine And.intro (by first | omega | assumption | exact rfl) ?_); refine V _ ?_; clear V K0; simp only [put, app, aa, af, zE, zS, D])
        refine aj ?_
        refine hK54 _ ?_; clear hK54; refine ae [2, 4, 5, 7, 43, 44, 45, 95] ?_; simp only [Y, lkp, zE, reduceCtorEq, E, Z, D]
        refine aI ?_
        refine ⟨by first | exact .inl rfl | exact .inr rfl, _, rfl, ?_⟩; simp only [fzV, fz1, fzC, List.map_cons, List.map_nil, Y, lkp, zE, reduceCtorEq, E, Z, D, Dfa.av]
        refine VLE.of_eq ?_
        first
        | (have g9 := oB (n := n) (by assumption); obtain ⟨g1, g2⟩ := g9; rw [g1, g2])
        | (have g9 := oy hv (n := n) (by omega); obtain ⟨g1, g2⟩ := g9; rw [g1, g2])
        | (have g9 := ox hv (n := n) (by omega) (by assumption); obtain ⟨g1, g2⟩ := g9; rw [g1, g2])
        | (have g9 := lM hv (n := n) (by omega) (by omega); obtain ⟨g1, g2⟩ := g9; rw [g1, g2])
end Go.Proofs.Ytdkgcbhbpdbmnaa
namespace Go.Proofs.Ytdkgcbhbpdbmnaa
open Go Go.AV
open Nat renaming reduceEqDiff → E, reduceAdd → D, reduceLeDiff → J, reduceLT → U, reduceMul → O, reduceSub → S
open List renaming set_cons_zero → aq, set_cons_succ → am
set_option maxRecDepth 100000 in
theorem sw (a b : Dfa) (q : PP) (x : Nat) (ha : DOK a) (hb : DOK b) (hi : a.inp = b.inp) (hq : inR a.nx.length b.nx.length q) (hx : (x : Int) < a.inp) : bJ Try.prog 62 [.agg [.int .i64 q.1, .int .i64 q.2], .one (.int .i64 (x : Int)), .one (.pat (.pair (.int .i64) (.pair (.int .i64) (.pair (.list (.list (.int .i64))) (.pair (.list .bool) .unit)))) (a.inp, (a.st, (a.nx, (a.acc, ())))) 0), .one (.pat (.pair (.int .i64) (.pair (.int .i64) (.pair (.list (.list (.int .i64))) (.pair (.list .bool) .unit)))) (b.inp, (b.st, (b.nx, (b.acc, ())))) 0)] (.agg [.int .i64 (eH a b q x).1, .int .i64 (eH a b q x).2]) := by
 have hra := ha.rli hq.1; have hsa : ((a.nx.getD q.1.toNat []).length : Int) = a.inp := hra; have hta := hq.1; have hua := ha.al
 have hrb := hb.rli hq.2; have hsb : ((b.nx.getD q.2.toNat []).length : Int) = b.inp := hrb; have htb := hq.2; have hub := hb.al
 refine aS Try.func62 rfl (by kernel_rfl) (Nat.le_of_ble_eq_true rfl) rfl fun C hP hN hB => ?_
 replace hN : C.N = 26 := hN
 simp only [Z, D]
 refine ab fun K1 hK1 => ?_
 refine ai hP hN rfl ?_
 iterate 2 (refine ad rfl fun K0 V => ?_; simp only [zE, op1, ev, lkp, ah, ag, c0, au, bQ, reduceCtorEq, E, D, J, U, O, S, Try.ea81, Try.sa81, Try.td81]; (repeat refine And.intro (by first | omega | assumption | exact rfl) ?_); (first | refine V _ ?_ | refine Or.inl (V _ ?_)); clear V K0; simp only [put, app, aa, af, zE, zS, D])
 refine aj ?_
 refine hK1 _ ?_; clear hK1; refine ae [0, 1, 2, 3, 4, 6] ?_; simp only [Y, lkp, zE, reduceCtorEq, E, Z, D]
 refine ab fun K2 hK2 => ?_
 refine bY hP hN Try.mixed rfl ?_
 iterate 20 (refine ad rfl fun K0 V => ?_; simp only [zE, op1, ev, lkp, ah, ag, aw, az, Nat.mul_one, ax, ay, acs, Ty.dflt, zG, ao, aJ, Ty.size, ne_eq, not_false_eq_true, Int.natCast_one, Int.mul_one, bW, bh, aQ, au, bj, aL, reduceCtorEq, E, D, J, U, O, S, Try.ea81, Try.el22, Try.el26, Try.sa81, Try.st25, Try.td2, Try.td22, Try.td25, Try.td26, Try.td3, Try.td81]; (repeat refine And.intro (by first | omega | assumption | exact rfl) ?_); (first | refine V _ ?_ | refine Or.inl (V _ ?_)); clear V K0; simp only [put, app, aa, af, zE, zS, D])
 refine aj ?_
 refine ⟨by kernel_rfl, ?_⟩
 refine hK2 _ ?_; clear hK2; refine ae [0, 1, 2, 3, 4, 6] ?_; simp only [Y, lkp, zE, reduceCtorEq, E, Z, D]
 refine aI ?_
 refine ⟨by first | exact .inl rfl | exact .inr rfl, _, rfl, ?_⟩; simp only [fzV, fz1, fzC, List.map_cons, List.map_nil, Y, lkp, zE, reduceCtorEq, E, Z, D]
 refine VLE.of_eq ?_
 rfl
end Go.Proofs.Ytdkgcbhbpdbmnaa
namespace Go.Proofs.Ytdkgcbhbpdbmnaa
open Go Go.AV
open Nat renaming reduceEqDiff → E, reduceAdd → D, reduceLeDiff → J, reduceLT → U, reduceMul → O, reduceSub → S
open List renaming set_cons_zero → aq, set_cons_succ → am
set_option maxRecDepth 100000 in
theorem sq (a b : Dfa) (q : PP) (ha : DOK a) (hb : DOK b) (hi : a.inp = b.inp) (hq : inR a.nx.length b.nx.length q) : bJ Try.prog 63 [.agg [.int .i64 q.1, .int .i64 q.2], .one (.pat (.pair (.int .i64) (.pair (.int .i64) (.pair (.list (.list (.int .i64))) (.pair (.list .bool) .unit)))) (a.inp, (a.st, (a.nx, (a.acc, ())))) 0), .one (.pat (.pair (.int .i64) (.pair (.int .i64) (.pair (.list (.list (.int .i64))) (.pair (.list .bool) .unit)))) (b.inp, (b.st, (b.nx, (b.acc, ())))) 0)] (.one (.bool (dU a b q))) := by
 have hra := ha.rli hq.1; have hsa : ((a.nx.getD q.1.toNat []).length : Int) = a.inp := hra; have hta := hq.1; have hua := ha.al
 have hrb := hb.rli hq.2; have hsb : ((b.nx.getD q.2.toNat []).length : Int) = b.inp := hrb; have htb := hq.2; have hub := hb.al
 refine aS Try.func63 rfl (by kernel_rfl) (Nat.le_of_ble_eq_true rfl) rfl fun C hP hN hB => ?_
 replace hN : C.N = 18 := hN
 simp only [Z, D]
 refine ab fun K1 hK1 => ?_
 refine ai hP hN rfl ?_
 iterate 2 (refine ad rfl fun K0 V => ?_; simp only [zE, op1, ev, lkp, ah, ag, c0, au, reduceCtorEq, E, D, J, U, O, S, Try.ea81, Try.sa81, Try.td4, Try.td81]; (repeat refine And.intro (by first | omega | assumption | exact rfl) ?_); refine V _ ?_; clear V K0; simp only [put, app, aa, af, zE, zS, D])
 refine aj ?_
 refine hK1 _ ?_; clear hK1; refine ae [0, 1, 2, 3, 4] ?_; simp only [Y, lkp, zE, reduceCtorEq, E, Z, D]
 refine ab fun K2 hK2 => ?_
 refine bY hP hN Try.mixed rfl ?_
 iterate 14 (refine ad rfl fun K0 V => ?_; simp only [zE, op1, ev, lkp, ah, ag, aw, az, Nat.mul_one, ax, ay, acs, Ty.dflt, zG, ao, aJ, Ty.size, ne_eq, not_false_eq_true, Int.natCast_one, Int.mul_one, aE, aC, aD, ar, aB, aN, reduceCtorEq, E, D, J, U, O, S, Try.ea81, Try.el23, Try.sa81, Try.st25, Try.td23, Try.td25, Try.td3, Try.td4, Try.td81]; (repeat refine And.intro (by first | omega | assumption | exact rfl) ?_); refine V _ ?_; clear V K0; simp only [put, app, aa, af, zE, zS, D])
 refine aj ?_
 refine ⟨by kernel_rfl, ?_⟩
 refine hK2 _ ?_; clear hK2; refine ae [0, 1, 2, 3, 4] ?_; simp only [Y, lkp, zE, reduceCtorEq, E, Z, D]
 refine aI ?_
 refine ⟨by first | exact .inl rfl | exact .inr rfl, _, rfl, ?_⟩; simp only [fzV, fz1, fzC, List.map_cons, List.map_nil, Y, lkp, zE, reduceCtorEq, E, Z, D]
 refine VLE.of_eq ?_
 refine congrArg (fun b => AV.one (AC.bool b)) ?_
 unfold dU
 show (!decide (a.ac q.1 = b.ac q.2)) = (a.ac q.1 != b.ac q.2)
 cases a.ac q.1 <;> cases b.ac q.2 <;> rfl
end Go.Proofs.Ytdkgcbhbpdbmnaa
namespace Go.Proofs.Ytdkgcbhbpdbmnaa
open Go Go.AV
open Nat renaming reduceEqDiff → E, reduceAdd → D, reduceLeDiff → J, reduceLT → U, reduceMul → O, reduceSub → S
open List renaming set_cons_zero → aq, set_cons_succ → am
set_option maxRecDepth 100000 in
theorem nu (l : List W3) (fd : Bool) (h : fd = true → 0 < l.length) (hl : l.length ≤ 100000) : bJ Try.prog 48 [.one (.list (.pair (.pair (.int .i64) (.pair (.int .i64) .unit)) (.pair (.list (.int .i64)) .unit)) (List.map fX l)), .one (.bool fd)] (.tup [.one (.list (.int .i64) (if fd = true then (l.getD (l.length - 1) w30).2 else [])), .one (.bool fd), .one (.int .i64 0)]) := by
 refine aS Try.func48 rfl (by kernel_rfl) (Nat.le_of_ble_eq_true rfl) rfl fun C hP hN hB => ?_
 replace hN : C.N = 16 := hN
 simp only [Z, D]
 refine ab fun K1 hK1 => ?_
 refine ai hP hN rfl ?_
 iterate 3 (refine ad rfl fun K0 V => ?_; simp only [zE, op1, ev, lkp, ah, ag, ev, reduceCtorEq, E, D, J, U, O, S, Try.el26, Try.td26, Try.td29, Try.td4, List.length_map]; refine V _ ?_; clear V K0; simp only [put, app, aa, af, zE, zS, D])
 refine aj ?_
 refine hK1 _ ?_; clear hK1; refine ae [0, 1, 4, 5, 6] ?_; simp only [Y, lkp, zE, reduceCtorEq, E, Z, D]
 refine ab fun K2 hK2 => ?_
 refine ab fun K3 hK3 => ?_
 refine ai hP hN rfl ?_
 iterate 2 (refine ad rfl fun K0 V => ?_; simp only [zE, op1, ev, lkp, ah, ag, gG, reduceCtorEq, E, D, J, U, O, S, Try.td4, List.length_map]; (repeat refine And.intro (by first | omega | assumption | exact rfl) ?_); refine V _ ?_; clear V K0; simp only [put, app, aa, af, zE, zS, D])
 refine aj ?_
 refine hK3 _ ?_; clear hK3; refine ae [0, 1, 4, 5, 6, 8] ?_; simp only [Y, lkp, zE, reduceCtorEq, E, Z, D]
 refine aF (by simp only [ev, Y, lkp, zE, reduceCtorEq, E, Z, D]; exact rfl) (fun hc4 => ?_) (fun hc4 => ?_)
 ·(try simp only [zB, reduceCtorEq] at hc4)
  have hfd : fd = false := by simpa using hc4
  refine ab fun K5 hK5 => ?_
  refine ai hP hN rfl ?_
  iterate 3 (refine ad rfl fun K0 V => ?_; simp only [zE, op1, ev, lkp, ah, ag, ev, reduceCtorEq, E, D, J, U, O, S, Try.el26, Try.td26, Try.td29, Try.td4, List.length_map]; refine V _ ?_; clear V K0; simp only [put, app, aa, af, zE, zS, D])
  refine aj ?_
  refine hK5 _ ?_; clear hK5; refine ae [0, 1, 4, 5, 6, 8] ?_; simp only [Y, lkp, zE, reduceCtorEq, E, Z, D]
  refine aI ?_
  refine ⟨by first | exact .inl rfl | exact .inr rfl, _, rfl, ?_⟩; simp only [fzV, fz1, fzC, List.map_cons, List.map_nil, Y, lkp, zE, reduceCtorEq, E, Z, D, List.length_map]
  first
  | (rw [hfd]; exact bz ⟨aR (aT rfl), fun _ _ _ _ _ h => h, fun _ _ _ _ _ h => h, trivial⟩)
  | (rw [hfd]; exact VLE.of_eq (by simp only [if_true]))
 ·(try simp only [zB, reduceCtorEq] at hc4)
  have hfd : fd = true := by simpa using hc4
  have hl0 := h hfd
  have hidx : ((l.length : Int) - 1).toNat = l.length - 1 := by omega
  have hgi : gt (.pair (.pair (.int .i64) (.pair (.int .i64) .unit)) (.pair (.list (.int .i64)) .unit)) (List.map fX l) ((l.length : Int) - 1) = (((l.getD (l.length - 1) w30).1.1, ((l.getD (l.length - 1) w30).1.2, ())), ((l.getD (l.length - 1) w30).2, ())) := by unfold gt; rw [hidx]; exact iD (by omega) _
  refine aK ?_
  refine hK2 _ ?_; clear hK2; refine ae [0, 1, 4, 5, 6, 8] ?_; simp only [Y, lkp, zE, reduceCtorEq, E, Z, D]
  refine ab fun K6 hK6 => ?_
  refine ai hP hN rfl ?_
  iterate 10 (refine ad rfl fun K0 V => ?_; simp only [zE, op1, ev, lkp, ah, ag, aH, bu, bb, aY, aZ, br, Nat.div_one, aM, b0, Ty.size, aL, dite_true, aE, aC, aD, ar, aB, aN, aJ, zG, Ty.dflt, Nat.mul_one, ne_eq, not_false_eq_true, Int.natCast_one, Int.mul_one, aw, az, ax, ay, acs, ao, reduceCtorEq, E, D, J, U, O, S, Try.el26, Try.el83, Try.st110, Try.td1, Try.td110, Try.td26, Try.td29, Try.td3, Try.td4, Try.td83, List.length_map, hgi]; (repeat refine And.intro (by first | omega | assumption | exact rfl) ?_); (first | refine V _ ?_ | refine Or.inl (V _ ?_)); clear V K0; simp only [put, app, aa, af, zE, zS, D])
  refine aj ?_
  refine hK6 _ ?_; clear hK6; refine ae [0, 1, 4, 5, 6, 8] ?_; simp only [Y, lkp, zE, reduceCtorEq, E, Z, D]
  refine aI ?_
  refine ⟨by first | exact .inl rfl | exact .inr rfl, _, rfl, ?_⟩; simp only [fzV, fz1, fzC, List.map_cons, List.map_nil, Y, lkp, zE, reduceCtorEq, E, Z, D, List.length_map]
  first
  | (rw [hfd]; exact bz ⟨aR (aT rfl), fun _ _ _ _ _ h => h, fun _ _ _ _ _ h => h, trivial⟩)
  | (rw [hfd]; exact VLE.of_eq (by simp only [if_true]))
end Go.Proofs.Ytdkgcbhbpdbmnaa
