/- Contracts of functions of this seat, each out of a walk through its code, and plain facts on what they compute. Conditions: those that each theorem names. -/
import Derived.Test.YtoahhklogohehaaW03
set_option linter.unusedSimpArgs false
set_option linter.unusedVariables false
set_option maxRecDepth 100000
namespace Go.Proofs.Ytoahhklogohehaa
open Go Go.AV
open Nat renaming reduceEqDiff → aa, reduceAdd → V, reduceLeDiff → ad, reduceLT → ag, reduceMul → af, reduceSub → ae
open List renaming set_cons_zero → cE, set_cons_succ → ci, getD_cons_zero → ar, length_append → aq, map_cons → aF, cons_append → aM, map_nil → bl, length_cons → au, nil_append → ba, take_succ_cons → dD, length_nil → aE, length_map → az, length_replicate → bh, take_length → aJ, mem_cons_self → aH, mem_cons_of_mem → aG
open Int renaming toNat_natCast → ah
theorem vB (xs : List Int) (o : Int) (hx : xs.Pairwise (· < ·)) (ho : o ∈ xs) (hl : xs.length ≤ 1000000) : bZ Try.prog 75 [.one (.list (.int .i64) xs), .one (.int .i64 o)] (.tup [.one (.int .i64 (pos xs o : Int)), .one (.bool true)]) := by
 refine aU Try.func75 rfl (by kernel_rfl) (Nat.le_of_ble_eq_true rfl) rfl fun C hP hN hB => ?_
 replace hN : C.N = 54 := hN
 simp only [bg, V]
 refine ai fun _ k1 => ?_
 refine ak hP hN rfl ?_
 iterate 2 (refine aj rfl fun _ k0 => ?_; simp only [zO, zT, acs, reduceCtorEq, aa, V, ad, ag, af, ae, cL, Int.toNat_one, Int.reducePow, Int.reduceToNat]; (repeat refine an ?_); (try refine .inl ?_); apply k0; clear k0; simp only [zP, V])
 refine am ?_
 apply k1; clear k1; refine kp [0, 1, 4, 5] ?_
 refine ai fun _ k2 => ?_
 refine ak hP hN rfl ?_
 iterate 3 (refine aj rfl fun _ k0 => ?_; simp only [zO, zT, acs, reduceCtorEq, aa, V, ad, ag, af, ae, cL, Int.toNat_one, Int.reducePow, Int.reduceToNat]; (repeat refine an ?_); (try refine .inl ?_); apply k0; clear k0; simp only [zP, V])
 refine am ?_
 apply k2; clear k2; refine kp [0, 1, 4, 5, 6] ?_
 refine ai fun _ k3 => ?_
 refine ak hP hN rfl ?_
 iterate 3 (refine aj rfl fun _ k0 => ?_; simp only [zO, zT, acs, reduceCtorEq, aa, V, ad, ag, af, ae, cL, Int.toNat_one, Int.reducePow, Int.reduceToNat]; (repeat refine an ?_); (try refine .inl ?_); apply k0; clear k0; simp only [zP, V])
 refine am ?_
 apply k3; clear k3; refine kp [0, 1, 4, 5, 6, 7, 8] ?_
 refine ai fun _ k4 => ?_
 refine ay ?_
 refine bb (fun n5 s5 => ∃ (lo hi : Nat), (lo ≤ hi ∧ hi ≤ xs.length) ∧ (∀ q, q < lo → xs.getD q 0 < o) ∧ (∀ q, hi ≤ q → q < xs.length → o ≤ xs.getD q 0) ∧ n5 = hi - lo ∧ s5 = { env := [(0, .one (.list (.int .i64) xs)), (1, .one (.int .i64 o)), (4, .one (.int .i64 0)), (5, .one (.bool false)), (6, .one (.int .i64 (xs.length : Int))), (7, .one (.int .i64 (lo : Int))), (8, .one (.int .i64 (hi : Int)))], L := [] }) ?_ ?_
 ·exact ⟨_, _, aw [0, 1, 4, 5, 6, 7, 8], 0, xs.length, ⟨Nat.zero_le _, Nat.le_refl _⟩, fun q h => by omega, fun q h h2 => by omega, rfl, rfl⟩
 rintro n5 s5 ⟨lo, hi, hlo, h1, h2, rfl, rfl⟩
 refine ai fun _ k6 => ?_
 refine ai fun _ k7 => ?_
 refine ak hP hN rfl ?_
 iterate 3 (refine aj rfl fun _ k0 => ?_; simp only [zO, zT, acs, reduceCtorEq, aa, V, ad, ag, af, ae, cL, Int.toNat_one, Int.reducePow, Int.reduceToNat]; (repeat refine an ?_); (try refine .inl ?_); apply k0; clear k0; simp only [zP, V])
 refine am ?_
 apply k7; clear k7; refine kp [0, 1, 4, 5, 6, 7, 8, 15] ?_
 refine cd (fun hc8 => ?_) (fun hc8 => ?_)
 ·(try simp only [zB, reduceCtorEq] at hc8)
  refine ax ?_
  apply k6; clear k6; refine kp [0, 1, 4, 5, 6, 7, 8, 15] ?_
  refine ay ?_
  refine ai fun _ k9 => ?_
  refine ak hP hN rfl ?_
  iterate 3 (refine aj rfl fun _ k0 => ?_; simp only [zO, zT, acs, reduceCtorEq, aa, V, ad, ag, af, ae, cL, Int.toNat_one, Int.reducePow, Int.reduceToNat]; (repeat refine an ?_); (try refine .inl ?_); apply k0; clear k0; simp only [zP, V])
  (refine aj rfl fun _ k0 => ?_; simp only [zE, op1, ev, lkp, d5, bQ, iV, cT, fA, gP, eT, gz, gp, reduceCtorEq, aa, V, ad, ag, af, ae, Try.td132, Try.td3, cL, Int.toNat_one, Int.reducePow, Int.reduceToNat]; (repeat refine an ?_); (try refine .inl ?_); apply k0; clear k0; simp only [zP, V])
  (refine aj rfl fun _ k0 => ?_; simp only [zO, zT, acs, reduceCtorEq, aa, V, ad, ag, af, ae, cL, Int.toNat_one, Int.reducePow, Int.reduceToNat]; (repeat refine an ?_); (try refine .inl ?_); apply k0; clear k0; simp only [zP, V])
  (refine aj rfl fun _ k0 => ?_; simp only [zE, op1, ev, lkp, d5, bQ, iV, cT, fA, gP, eT, gz, gp, reduceCtorEq, aa, V, ad, ag, af, ae, Try.td132, Try.td3, cL, Int.toNat_one, Int.reducePow, Int.reduceToNat]; (repeat refine an ?_); (try refine .inl ?_); apply k0; clear k0; simp only [zP, V])
  (refine aj rfl fun _ k0 => ?_; simp only [zO, zT, acs, reduceCtorEq, aa, V, ad, ag, af, ae, cL, Int.toNat_one, Int.reducePow, Int.reduceToNat]; (repeat refine an ?_); (try refine .inl ?_); apply k0; clear k0; simp only [zP, V])
  refine am ?_
  apply k9; clear k9; refine kp [0, 1, 4, 5, 6, 7, 8, 9, 15] ?_
  refine ai fun _ k10 => ?_
  have hmid : ((lo : Int) + (hi : Int)) / 2 = (((lo + hi) / 2) : Nat) := by omega
  rw [hmid]
  have hml : ((lo + hi) / 2) < xs.length := by omega
  refine ak hP hN rfl ?_
  iterate 5 (refine aj rfl fun _ k0 => ?_; simp only [zO, zT, acs, reduceCtorEq, aa, V, ad, ag, af, ae, cL, Int.toNat_one, Int.reducePow, Int.reduceToNat]; (repeat refine an ?_); (try refine .inl ?_); apply k0; clear k0; simp only [zP, V])
  refine aj rfl fun _ k0 => ?_
  refine aN (h := aA (A8 (xs.getD ((lo + hi) / 2) 0) o)) rfl rfl (by first | exact rfl | (simp only [ev, zP, aa, V]; exact rfl)) (by simp only [zV, acs, reduceCtorEq, aa, V, ad, ag, af, ae, cL, Int.toNat_one, Int.reducePow, Int.reduceToNat]) ?_
  apply k0; clear k0; simp only [zP, V]
  refine am ?_
  apply k10; clear k10; refine kp [0, 1, 4, 5, 6, 7, 8, 9, 15, 27] ?_
  refine cd (fun hc11 => ?_) (fun hc11 => ?_)
  ·(try simp only [zB, reduceCtorEq] at hc11)
   have hv : xs.getD ((lo + hi) / 2) 0 < o := by simpa using hc11
   refine ak hP hN rfl ?_
   iterate 3 (refine aj rfl fun _ k0 => ?_; simp only [zO, zT, acs, reduceCtorEq, aa, V, ad, ag, af, ae, cL, Int.toNat_one, Int.reducePow, Int.reduceToNat]; (repeat refine an ?_); (try refine .inl ?_); apply k0; clear k0; simp only [zP, V])
   refine am ?_
   first
   | (refine ⟨_, _, ?_, aw [0, 1, 4, 5, 6, 7, 8], ((lo + hi) / 2) + 1, hi, ⟨by omega, hlo.2⟩, pH hx hml hv, h2, rfl, rfl⟩
      omega)
   | (refine ⟨_, _, ?_, aw [0, 1, 4, 5, 6, 7, 8], lo, ((lo + hi) / 2), ⟨by omega, by omega⟩, h1, oq hx hml hv, rfl, rfl⟩
      omega)
  (try simp only [zB, reduceCtorEq] at hc11)
  have hv : ¬ xs.getD ((lo + hi) / 2) 0 < o := by simpa using hc11
  refine ak hP hN rfl ?_
  iterate 2 (refine aj rfl fun _ k0 => ?_; simp only [zO, zT, acs, reduceCtorEq, aa, V, ad, ag, af, ae, cL, Int.toNat_one, Int.reducePow, Int.reduceToNat]; (repeat refine an ?_); (try refine .inl ?_); apply k0; clear k0; simp only [zP, V])
  refine am ?_
  first
  | (refine ⟨_, _, ?_, aw [0, 1, 4, 5, 6, 7, 8], ((lo + hi) / 2) + 1, hi, ⟨by omega, hlo.2⟩, pH hx hml hv, h2, rfl, rfl⟩
     omega)
  | (refine ⟨_, _, ?_, aw [0, 1, 4, 5, 6, 7, 8], lo, ((lo + hi) / 2), ⟨by omega, by omega⟩, h1, oq hx hml hv, rfl, rfl⟩
     omega)
 (try simp only [zB, reduceCtorEq] at hc8)
 refine aX ?_
 apply k4; clear k4; refine kp [0, 1, 4, 5, 6, 7, 8, 15] ?_
 refine ai fun _ k12 => ?_
 have hlh : lo = hi := by omega
 obtain ⟨hpz, hgz, hlz⟩ := zR hx ho h1 (by rw [hlh]; exact h2)
 refine ak hP hN rfl ?_
 iterate 5 (refine aj rfl fun _ k0 => ?_; simp only [zO, zT, acs, reduceCtorEq, aa, V, ad, ag, af, ae, cL, Int.toNat_one, Int.reducePow, Int.reduceToNat]; (repeat refine an ?_); (try refine .inl ?_); apply k0; clear k0; simp only [zP, V])
 refine' aP (want := true) 17 rfl (m := 35) (by simp only [zP, aa, V]; exact rfl) (by kernel_rfl) rfl rfl rfl rfl rfl (fun hg13 => ?a13) ?b13 ?c13
 case a13 =>
  have hq13 := hg13; (try simp only [zB, reduceCtorEq] at hg13); simp only [zE]
  iterate 7 (refine bf rfl fun _ k0 => ?_; simp only [zO, zT, acs, reduceCtorEq, aa, V, ad, ag, af, ae, cL, Int.toNat_one, Int.reducePow, Int.reduceToNat]; (repeat refine an ?_); (try refine .inl ?_); apply k0; clear k0; simp only [zP, V])
  refine' aP (want := false) 9 rfl (m := 42) (by simp only [zP, aa, V]; exact rfl) (by kernel_rfl) rfl rfl rfl rfl rfl (fun hg14 => ?a14) ?b14 ?c14
  case a14 =>
   have hq14 := hg14; (try simp only [zB, reduceCtorEq] at hg14); simp only [zE]
   iterate 4 (refine bf rfl fun _ k0 => ?_; simp only [zO, zT, acs, reduceCtorEq, aa, V, ad, ag, af, ae, cL, Int.toNat_one, Int.reducePow, Int.reduceToNat]; (repeat refine an ?_); (try refine .inl ?_); apply k0; clear k0; simp only [zP, V])
   refine bf rfl fun _ k0 => ?_
   refine aN (h := aA (wu (xs.getD lo 0))) rfl rfl (by first | exact rfl | (simp only [ev, zP, aa, V]; exact rfl)) (by simp only [zV, acs, reduceCtorEq, aa, V, ad, ag, af, ae, cL, Int.toNat_one, Int.reducePow, Int.reduceToNat]) ?_
   apply k0; clear k0; simp only [zP, V]
   (refine bf rfl fun _ k0 => ?_; simp only [zO, zT, acs, reduceCtorEq, aa, V, ad, ag, af, ae, cL, Int.toNat_one, Int.reducePow, Int.reduceToNat]; (repeat refine an ?_); (try refine .inl ?_); apply k0; clear k0; simp only [zP, V])
   refine' aP (want := true) 2 rfl (m := 48) (by simp only [zP, aa, V]; exact rfl) (by kernel_rfl) rfl rfl rfl rfl rfl (fun hg15 => ?a15) ?b15 ?c15
   case a15 =>
    have hq15 := hg15; (try simp only [zB, reduceCtorEq] at hg15); simp only [zE]
    (refine bf rfl fun _ k0 => ?_; simp only [zO, zT, acs, reduceCtorEq, aa, V, ad, ag, af, ae, cL, Int.toNat_one, Int.reducePow, Int.reduceToNat]; (repeat refine an ?_); (try refine .inl ?_); apply k0; clear k0; simp only [zP, V])
    refine bf rfl fun _ k0 => ?_
    refine aN (h := aA (wu o)) rfl rfl (by first | exact rfl | (simp only [ev, zP, aa, V]; exact rfl)) (by simp only [zV, acs, reduceCtorEq, aa, V, ad, ag, af, ae, cL, Int.toNat_one, Int.reducePow, Int.reduceToNat]) ?_
    apply k0; clear k0; simp only [zP, V]
    (refine bf rfl fun _ k0 => ?_; simp only [zO, zT, acs, reduceCtorEq, aa, V, ad, ag, af, ae, cL, Int.toNat_one, Int.reducePow, Int.reduceToNat]; (repeat refine an ?_); (try refine .inl ?_); apply k0; clear k0; simp only [zP, V])
    refine am ?_
    refine ⟨by simp only [zP, aa, V]; exact rfl, rfl, ?_, rfl⟩; (repeat refine aQ rfl ?_); exact bn (by exact rfl) hq15
   case b15 => exact cq
   simp only [b7, aT]
   (refine bf rfl fun _ k0 => ?_; simp only [zO, zT, acs, reduceCtorEq, aa, V, ad, ag, af, ae, cL, Int.toNat_one, Int.reducePow, Int.reduceToNat]; (repeat refine an ?_); (try refine .inl ?_); apply k0; clear k0; simp only [zP, V])
   refine am ?_
   refine ⟨by simp only [zP, aa, V]; exact rfl, rfl, ?_, rfl⟩; (repeat refine aQ rfl ?_); exact bn (by exact rfl) hq14
  case b14 => exact cq
  simp only [b7, aT]
  (refine aj rfl fun _ k0 => ?_; simp only [zO, zT, acs, reduceCtorEq, aa, V, ad, ag, af, ae, cL, Int.toNat_one, Int.reducePow, Int.reduceToNat]; (repeat refine an ?_); (try refine .inl ?_); apply k0; clear k0; simp only [zP, V])
  refine am ?_
  refine ⟨by simp only [zP, aa, V]; exact rfl, rfl, ?_, rfl⟩; (repeat refine aQ rfl ?_); exact bn (by exact rfl) hq13
 case b13 => exact cq
 simp only [b7, aT]
 iterate 2 (refine aj rfl fun _ k0 => ?_; simp only [zO, zT, acs, reduceCtorEq, aa, V, ad, ag, af, ae, cL, Int.toNat_one, Int.reducePow, Int.reduceToNat]; (repeat refine an ?_); (try refine .inl ?_); apply k0; clear k0; simp only [zP, V])
 refine am ?_
 apply k12; clear k12; refine kp [0, 1, 4, 5, 6, 7, 8, 15] ?_
 refine aB ?_
 refine ⟨nr, _, rfl, ?_⟩; simp only [zF, zP, aa, V, cL, Int.toNat_one, Int.reducePow, Int.reduceToNat]
 refine VLE.of_eq ?_
 simp only [hgz]
 simp [hlz, ← hpz, o8]
open Go.Shelf in
def Try.laysNm220_ren : Go.Shelf.Ren := ⟨fun | 20 => 74 | n => n, fun | 22 => 41 | 3 => 3 | 4 => 4 | 0 => 0 | n => n, fun | n => n⟩
theorem Try.laysNm220 : Go.Proofs.Lays2.n20 Try.prog Try.laysNm220_ren := {
  mixed := by kernel_rfl,
  f20 := Try.func74.trans (congrArg some (by kernel_rfl)),
  t0 := Try.underlying0,
  a0 := Try.isAgg0,
  z0 := Try.sizeOf0,
  v0 := Try.zeroValue0,
  t3 := Try.underlying3,
  a3 := Try.isAgg3,
  z3 := Try.sizeOf3,
  v3 := Try.zeroValue3,
  t4 := Try.underlying4,
  a4 := Try.isAgg4,
  z4 := Try.sizeOf4,
  v4 := Try.zeroValue4,
  t22 := Try.underlying41,
  a22 := Try.isAgg41,
  z22 := Try.sizeOf41,
  v22 := Try.zeroValue41,
  i3 := by kernel_rfl }
theorem nt : rG Try.prog 74 := ⟨⟨Try.f74, Try.func74, by kernel_rfl, by kernel_rfl⟩, fun blk off cap zs w hH hb hz => Any.slices_Compact_int Try.laysNm220 blk off cap zs w hH hb hz⟩
open Go.Shelf in
def Try.lays189_ren : Go.Shelf.Ren := ⟨fun | 189 => 73 | 125 => 84 | 257 => 83 | 128 => 98 | 129 => 99 | 294 => 90 | 295 => 91 | 296 => 92 | 297 => 93 | 298 => 94 | 299 => 95 | 216 => 85 | 300 => 96 | 301 => 97 | 328 => 103 | 329 => 104 | 330 => 105 | 331 => 106 | 332 => 107 | 215 => 100 | 343 => 109 | n => n, fun | 28 => 41 | 3 => 3 | 46 => 132 | 0 => 0 | 51 => 144 | 53 => 146 | 4 => 4 | 183 => 138 | 182 => 137 | 131 => 69 | 5 => 5 | 9 => 9 | 218 => 148 | 222 => 152 | 228 => 155 | 229 => 104 | n => n, fun | n => n⟩
theorem Try.lays189 : Go.Proofs.Lays.n189 Try.prog Try.lays189_ren := {
  mixed := by kernel_rfl,
  f125 := Try.func84.trans (congrArg some (by kernel_rfl)),
  f128 := Try.func98.trans (congrArg some (by kernel_rfl)),
  f129 := Try.func99.trans (congrArg some (by kernel_rfl)),
  f189 := Try.func73.trans (congrArg some (by kernel_rfl)),
  f215 := Try.func100.trans (congrArg some (by kernel_rfl)),
  f216 := Try.func85.trans (congrArg some (by kernel_rfl)),
  f257 := Try.func83.trans (congrArg some (by kernel_rfl)),
  f294 := Try.func90.trans (congrArg some (by kernel_rfl)),
  f295 := Try.func91.trans (congrArg some (by kernel_rfl)),
  f296 := Try.func92.trans (congrArg some (by kernel_rfl)),
  f297 := Try.func93.trans (congrArg some (by kernel_rfl)),
  f298 := Try.func94.trans (congrArg some (by kernel_rfl)),
  f299 := Try.func95.trans (congrArg some (by kernel_rfl)),
  f300 := Try.func96.trans (congrArg some (by kernel_rfl)),
  f301 := Try.func97.trans (congrArg some (by kernel_rfl)),
  f328 := Try.func103.trans (congrArg some (by kernel_rfl)),
  f329 := Try.func104.trans (congrArg some (by kernel_rfl)),
  f330 := Try.func105.trans (congrArg some (by kernel_rfl)),
  f331 := Try.func106.trans (congrArg some (by kernel_rfl)),
  f332 := Try.func107.trans (congrArg some (by kernel_rfl)),
  f343 := Try.func109.trans (congrArg some (by kernel_rfl)),
  t0 := Try.underlying0,
  a0 := Try.isAgg0,
  z0 := Try.sizeOf0,
  v0 := Try.zeroValue0,
  t3 := Try.underlying3,
  a3 := Try.isAgg3,
  z3 := Try.sizeOf3,
  v3 := Try.zeroValue3,
  t4 := Try.underlying4,
  a4 := Try.isAgg4,
  z4 := Try.sizeOf4,
  v4 := Try.zeroValue4,
  t5 := Try.underlying5,
  a5 := Try.isAgg5,
  z5 := Try.sizeOf5,
  v5 := Try.zeroValue5,
  t9 := Try.underlying9,
  a9 := Try.isAgg9,
  z9 := Try.sizeOf9,
  v9 := Try.zeroValue9,
  t28 := Try.underlying41,
  a28 := Try.isAgg41,
  z28 := Try.sizeOf41,
  v28 := Try.zeroValue41,
  t46 := Try.underlying132,
  a46 := Try.isAgg132,
  z46 := Try.sizeOf132,
  v46 := Try.zeroValue132,
  t51 := Try.underlying144,
  a51 := Try.isAgg144,
  z51 := Try.sizeOf144,
  v51 := Try.zeroValue144,
  t53 := Try.underlying146,
  a53 := Try.isAgg146,
  z53 := Try.sizeOf146,
  v53 := Try.zeroValue146,
  t131 := Try.underlying69,
  a131 := Try.isAgg69,
  z131 := Try.sizeOf69,
  v131 := Try.zeroValue69,
  t182 := Try.underlying137,
  a182 := Try.isAgg137,
  z182 := Try.sizeOf137,
  v182 := Try.zeroValue137,
  t183 := Try.underlying138,
  a183 := Try.isAgg138,
  z183 := Try.sizeOf138,
  v183 := Try.zeroValue138,
  t218 := Try.underlying148,
  a218 := Try.isAgg148,
  z218 := Try.sizeOf148,
  v218 := Try.zeroValue148,
  t222 := Try.underlying152,
  a222 := Try.isAgg152,
  z222 := Try.sizeOf152,
  v222 := Try.zeroValue152,
  t228 := Try.underlying155,
  a228 := Try.isAgg155,
  z228 := Try.sizeOf155,
  v228 := Try.zeroValue155,
  t229 := Try.underlying104,
  a229 := Try.isAgg104,
  z229 := Try.sizeOf104,
  v229 := Try.zeroValue104 }
theorem tq : yG Try.prog 73 := ⟨⟨Try.f73, Try.func73, by kernel_rfl, by kernel_rfl⟩, fun blk off cap zs w hH hb hz => Any.slices_Sort_int Try.lays189 blk off cap zs w hH hb hz⟩
set_option maxHeartbeats 2500000 in
theorem pC (m : Mly) (x : Value) (ini cur : List Int) (a : Int) (hm : MOK m) (hs : cU m cur) (ha : 0 ≤ a ∧ a < m.inp) (h0 : 0 < cur.length) (hl : cur.length ≤ 1000) (hil : ini.length = cur.length) (L0 : List AO) (m0 : Nat) (hm0 : L0[m0]? = some (.vars 62 [.int .i64 m.inp, .int .i64 m.st, .list (.list (.int .i64)) m.nx, .list (.list (.int .i64)) m.ot, .exact x])) : er Try.prog L0 53 (List.map (mv1 m0) [.one (.ptr 0 0 0 0), .agg [.list (.int .i64) ini, .list (.int .i64) cur], .one (.int .i64 a)]) { av := .tup [.one (.list (.int .i64) (aC (ouL m cur a))), .one (.list (.pair (.list (.int .i64)) (.pair (.list (.int .i64)) .unit)) (lX m ini cur a (aC (ouL m cur a))))], upd := [(m0, .vars 62 [.int .i64 m.inp, .int .i64 m.st, .list (.list (.int .i64)) m.nx, .list (.list (.int .i64)) m.ot, .exact x])], fp := [m0] } := by
 have ol := hm.ol
 have hkl := iH (ouL m cur a)
 have hol : (ouL m cur a).length = cur.length := az ..
 have hor := (dC (ouL m cur a)).1
 have hk0 := v4 (xs := ouL m cur a) (by omega)
 refine oJ Try.func53 rfl (by kernel_rfl) (Nat.le_of_ble_eq_true rfl) rfl rfl (fun C hP hN hB => ?_) L0 m0 hm0
 replace hN : C.N = 106 := hN
 simp only [bg, V]
 refine ai fun _ k1 => ?_
 refine ak hP hN rfl ?_
 iterate 3 (refine aj rfl fun _ k0 => ?_; simp only [zO, zT, acs, reduceCtorEq, aa, V, ad, ag, af, ae, ah]; (repeat refine an ?_); (try refine .inl ?_); apply k0; clear k0; simp only [zP, V])
 refine am ?_
 apply k1; clear k1; refine kp [0, 1, 2, 4, 6, 7] ?_
 refine ai fun _ k2 => ?_
 refine ak hP hN rfl ?_
 (refine aj rfl fun _ k0 => ?_; simp only [zO, zT, acs, reduceCtorEq, aa, V, ad, ag, af, ae, ah]; (repeat refine an ?_); (try refine .inl ?_); apply k0; clear k0; simp only [zP, V])
 refine am ?_
 apply k2; clear k2; refine kp [0, 1, 2, 4, 6, 7, 8] ?_
 refine ai fun _ k3 => ?_
 refine ai fun _ k4 => ?_
 refine ak hP hN rfl ?_
 iterate 4 (refine aj rfl fun _ k0 => ?_; simp only [zO, zT, acs, reduceCtorEq, aa, V, ad, ag, af, ae, ah]; (repeat refine an ?_); (try refine .inl ?_); apply k0; clear k0; simp only [zP, V])
 refine am ?_
 apply k4; clear k4; refine kp [0, 1, 2, 4, 6, 7, 8, 18, 19, 20] ?_
 refine ay ?_
 refine fM 8 (.int .i64) 3 (by decide) rfl ?_; simp only [au, aE, aM, ba, Nat.zero_add, V]
 refine bb (fun n5 s5 => ∃ (i : Nat) (v : Nat), (i ≤ cur.length) ∧ n5 = cur.length - i ∧ s5 = { env := [(0, .one (.ptr 0 0 0 0)), (2, .one (.int .i64 a)), (4, .one (.ptr 1 0 0 0)), (6, .one .nils), (7, .one .nils), (8, .one (.row 2 v)), (18, .one (.list (.int .i64) cur)), (19, .one (.int .i64 (cur.length : Int))), (20, .one (.int .i64 (i : Int)))], L := [.vars 62 [.int .i64 m.inp, .int .i64 m.st, .list (.list (.int .i64)) m.nx, .list (.list (.int .i64)) m.ot, .exact x], .vars 66 [.list (.int .i64) ini, .list (.int .i64) cur], .row (.int .i64) 3 v (ouL m (cur.take i) a)] }) ?_ ?_
 ·exact ⟨_, _, aw [0, 2, 4, 6, 7, 8, 18, 19, 20], 0, 0, Nat.zero_le _, rfl, rfl⟩
 rintro n5 s5 ⟨i, v, hi, rfl, rfl⟩
 refine ai fun _ k6 => ?_
 refine ak hP hN rfl ?_
 (refine aj rfl fun _ k0 => ?_; simp only [zO, zT, acs, reduceCtorEq, aa, V, ad, ag, af, ae, ah]; (repeat refine an ?_); (try refine .inl ?_); apply k0; clear k0; simp only [zP, V])
 refine am ?_
 apply k6; clear k6; refine kp [0, 2, 4, 6, 7, 8, 18, 19, 20, 21] ?_
 refine ai fun _ k7 => ?_
 refine cd (fun hc8 => ?_) (fun hc8 => ?_)
 ·(try simp only [zB, reduceCtorEq] at hc8)
  refine ax ?_
  apply k7; clear k7; refine kp [0, 2, 4, 6, 7, 8, 18, 19, 20, 21] ?_
  refine ai fun _ k9 => ?_
  refine ay ?_
  refine ai fun _ k10 => ?_
  refine ak hP hN rfl ?_
  iterate 3 (refine aj rfl fun _ k0 => ?_; simp only [zO, zT, acs, reduceCtorEq, aa, V, ad, ag, af, ae, ah]; (repeat refine an ?_); (try refine .inl ?_); apply k0; clear k0; simp only [zP, V])
  refine am ?_
  apply k10; clear k10; refine kp [0, 2, 4, 6, 7, 8, 10, 18, 19, 20, 21] ?_
  have hsk := hs _ (bm (w := cur) (i := i) (by omega))
  have q2 := hm.ql (cur.getD i 0).toNat (by omega)
  have hnl : (ouL m (cur.take i) a).length = i := by unfold ouL; rw [az, List.length_take]; omega
  refine ak hP hN rfl ?_
  iterate 15 (refine aj rfl fun _ k0 => ?_; simp only [zO, zT, acs, reduceCtorEq, aa, V, ad, ag, af, ae, ah]; (repeat refine an ?_); (try refine .inl ?_); apply k0; clear k0; simp only [zP, V])
  refine am ?_
  apply k9; clear k9; refine kp [0, 2, 4, 6, 7, 8, 10, 18, 19, 20, 21] ?_
  refine ak hP hN rfl ?_
  iterate 2 (refine aj rfl fun _ k0 => ?_; simp only [zO, zT, acs, reduceCtorEq, aa, V, ad, ag, af, ae, ah]; (repeat refine an ?_); (try refine .inl ?_); apply k0; clear k0; simp only [zP, V])
  refine am ?_
  refine ⟨_, _, ?_, aw [0, 2, 4, 6, 7, 8, 18, 19, 20], i + 1, v + 1, by omega, rfl, ?_⟩
  · omega
  · rw [qF (by omega)]; rfl
 (try simp only [zB, reduceCtorEq] at hc8)
 refine aX ?_
 apply k3; clear k3; refine kp [0, 2, 4, 6, 7, 8, 18, 19, 20, 21] ?_
 refine ai fun _ k11 => ?_
 refine cO 2 rfl ?_; simp only [aF, bl, zS, aa, and_self, and_true, true_and, and_false, false_and, if_true, if_false, eq_self, reduceCtorEq, Nat.one_ne_zero, Nat.zero_ne_one]
 have hkw : i = cur.length := by omega
 rw [hkw, aJ]
 refine cM (n := 2) (L1 := [_, _]) rfl rfl (by rw [hB]; simp) rfl rfl ?_
 refine ak hP hN rfl ?_
 (refine aj rfl fun _ k0 => ?_; simp only [zO, zT, acs, reduceCtorEq, aa, V, ad, ag, af, ae, ah]; (repeat refine an ?_); (try refine .inl ?_); apply k0; clear k0; simp only [zP, V])
 refine aj rfl fun _ k0 => ?_
 refine aN (h := kV (m9 (ouL m cur a) (by omega) (by omega))) rfl rfl (by first | exact rfl | (simp only [ev, zP, aa, V]; exact rfl)) (by simp only [zV, acs, reduceCtorEq, aa, V, ad, ag, af, ae, ah]) ?_
 apply k0; clear k0; simp only [zP, V]
 (refine aj rfl fun _ k0 => ?_; simp only [zO, zT, acs, reduceCtorEq, aa, V, ad, ag, af, ae, ah]; (repeat refine an ?_); (try refine .inl ?_); apply k0; clear k0; simp only [zP, V])
 refine am ?_
 apply k11; clear k11; refine kp [0, 2, 4, 6, 7, 8, 11, 18, 19, 20, 21] ?_
 refine ai fun _ k12 => ?_
 refine ak hP hN rfl ?_
 (refine aj rfl fun _ k0 => ?_; simp only [zO, zT, acs, reduceCtorEq, aa, V, ad, ag, af, ae, ah]; (repeat refine an ?_); (try refine .inl ?_); apply k0; clear k0; simp only [zP, V])
 refine aj rfl fun _ k0 => ?_
 refine aN (h := pT (k := 2) (ver := 0) (xs := ouL m cur a) tq rfl (by omega) (by omega)) rfl rfl (by first | exact rfl | (simp only [ev, zP, aa, V]; exact rfl)) (by simp only [zV, acs, reduceCtorEq, aa, V, ad, ag, af, ae, ah]) ?_
 apply k0; clear k0; simp only [zP, V]
 refine am ?_
 apply k12; clear k12; refine kp [0, 2, 4, 6, 7, 8, 11, 18, 19, 20, 21] ?_
 refine ai fun _ k13 => ?_
 refine ak hP hN rfl ?_
 (refine aj rfl fun _ k0 => ?_; simp only [zO, zT, acs, reduceCtorEq, aa, V, ad, ag, af, ae, ah]; (repeat refine an ?_); (try refine .inl ?_); apply k0; clear k0; simp only [zP, V])
 refine aj rfl fun _ k0 => ?_
 refine aN (h := kw (k := 2) (ver := 0) (xs := gI (ouL m cur a)) nt rfl (by rw [gV]; omega) (by rw [gV]; omega) ja) rfl rfl (by first | exact rfl | (simp only [ev, zP, aa, V]; exact rfl)) (by simp only [zV, acs, reduceCtorEq, aa, V, ad, ag, af, ae, ah]) ?_
 apply k0; clear k0; simp only [zP, V]
 (refine aj rfl fun _ k0 => ?_; simp only [zO, zT, acs, reduceCtorEq, aa, V, ad, ag, af, ae, ah]; (repeat refine an ?_); (try refine .inl ?_); apply k0; clear k0; simp only [zP, V])
 refine am ?_
 apply k13; clear k13; refine kp [0, 2, 4, 6, 7, 8, 11, 18, 19, 20, 21] ?_
 refine ai fun _ k14 => ?_
 refine cO 2 rfl ?_; simp only [aF, bl, zS, aa, and_self, and_true, true_and, and_false, false_and, if_true, if_false, eq_self, reduceCtorEq, Nat.one_ne_zero, Nat.zero_ne_one]
 rw [show Lib.compact (gI (ouL m cur a)) = (aC (ouL m cur a)) from rfl]
 refine ak hP hN rfl ?_
 iterate 2 (refine aj rfl fun _ k0 => ?_; simp only [zO, zT, acs, reduceCtorEq, aa, V, ad, ag, af, ae, ah]; (repeat refine an ?_); (try refine .inl ?_); apply k0; clear k0; simp only [zP, V])
 (refine aj rfl fun _ k0 => ?_; simp only [zE, op1, ev, lkp, d5, bQ, cQ, br, Ty.size, Ty.dflt, reduceCtorEq, aa, V, ad, ag, af, ae, Try.el91, Try.td91, ah]; (repeat refine an ?_); refine Or.inr (Or.inl (k0 _ ?_)); clear k0; simp only [zP, V])
 (refine aj rfl fun _ k0 => ?_; simp only [zO, zT, acs, reduceCtorEq, aa, V, ad, ag, af, ae, ah]; (repeat refine an ?_); (try refine .inl ?_); apply k0; clear k0; simp only [zP, V])
 refine am ?_
 apply k14; clear k14; refine kp [0, 2, 4, 6, 7, 8, 11, 12, 18, 19, 20, 21] ?_
 refine ai fun _ k15 => ?_
 refine ai fun _ k16 => ?_
 refine ak hP hN rfl ?_
 iterate 3 (refine aj rfl fun _ k0 => ?_; simp only [zO, zT, acs, reduceCtorEq, aa, V, ad, ag, af, ae, ah]; (repeat refine an ?_); (try refine .inl ?_); apply k0; clear k0; simp only [zP, V])
 refine am ?_
 apply k16; clear k16; refine kp [0, 2, 4, 6, 7, 8, 11, 12, 18, 19, 20, 21, 48, 49, 50] ?_
 refine ay ?_
 refine jI 3 3 (T := 66) (sz := 2) (v := 0) (2 * (aC (ouL m cur a)).length) _ [] (by rw [← oR]; rfl) ?_
 rw [← w4 m ini cur a (aC (ouL m cur a)), hol]
 simp only [ci, cE, au, aE, Nat.zero_add, V, ba, aM]
 refine bb (fun n17 s17 => ∃ (i : Nat), (i ≤ cur.length) ∧ n17 = cur.length - i ∧ s17 = { env := [(0, .one (.ptr 0 0 0 0)), (2, .one (.int .i64 a)), (4, .one (.ptr 1 0 0 0)), (6, .one .nils), (7, .one .nils), (11, .one (.list (.int .i64) (aC (ouL m cur a)))), (12, .one (.rwc 3 0)), (48, .one (.list (.int .i64) (ouL m cur a))), (49, .one (.int .i64 (cur.length : Int))), (50, .one (.int .i64 (i : Int)))], L := .vars 62 [.int .i64 m.inp, .int .i64 m.st, .list (.list (.int .i64)) m.nx, .list (.list (.int .i64)) m.ot, .exact x] :: .vars 66 [.list (.int .i64) ini, .list (.int .i64) cur] :: .dead 1 :: .rowc 66 2 0 (bW 4 (dO m ini cur a i (aC (ouL m cur a)))) :: dP 3 (dO m ini cur a i (aC (ouL m cur a))) }) ?_ ?_
 ·refine ⟨_, _, aw [0, 2, 4, 6, 7, 11, 12, 48, 49, 50], 0, Nat.zero_le _, rfl, ?_⟩
  rfl
 rintro n17 s17 ⟨i, hi, rfl, rfl⟩
 refine ai fun _ k18 => ?_
 refine ak hP hN rfl ?_
 (refine aj rfl fun _ k0 => ?_; simp only [zO, zT, acs, reduceCtorEq, aa, V, ad, ag, af, ae, ah]; (repeat refine an ?_); (try refine .inl ?_); apply k0; clear k0; simp only [zP, V])
 refine am ?_
 apply k18; clear k18; refine kp [0, 2, 4, 6, 7, 11, 12, 48, 49, 50, 51] ?_
 refine ai fun _ k19 => ?_
 refine cd (fun hc20 => ?_) (fun hc20 => ?_)
 ·(try simp only [zB, reduceCtorEq] at hc20)
  refine ax ?_
  apply k19; clear k19; refine kp [0, 2, 4, 6, 7, 11, 12, 48, 49, 50, 51] ?_
  refine ai fun _ k21 => ?_
  refine ay ?_
  refine ai fun _ k22 => ?_
  refine ak hP hN rfl ?_
  iterate 5 (refine aj rfl fun _ k0 => ?_; simp only [zO, zT, acs, reduceCtorEq, aa, V, ad, ag, af, ae, ah]; (repeat refine an ?_); (try refine .inl ?_); apply k0; clear k0; simp only [zP, V])
  refine am ?_
  apply k22; clear k22; refine kp [0, 2, 4, 6, 7, 11, 12, 13, 14, 48, 49, 50, 51] ?_
  refine ai fun _ k23 => ?_
  have hgo : (ouL m cur a).getD i 0 = m.out (cur.getD i 0) a := by unfold ouL; simp [List.getD, show i < cur.length by omega]
  have hin : m.out (cur.getD i 0) a ∈ (aC (ouL m cur a)) := by rw [← hgo]; exact ((dC (ouL m cur a)).2 _).2 (bm (by omega))
  rw [hgo]
  refine ak hP hN rfl ?_
  iterate 2 (refine aj rfl fun _ k0 => ?_; simp only [zO, zT, acs, reduceCtorEq, aa, V, ad, ag, af, ae, ah]; (repeat refine an ?_); (try refine .inl ?_); apply k0; clear k0; simp only [zP, V])
  refine aj rfl fun _ k0 => ?_
  refine aN (h := aA (vB (aC (ouL m cur a)) (m.out (cur.getD i 0) a) hor hin (by omega))) rfl rfl (by first | exact rfl | (simp only [ev, zP, aa, V]; exact rfl)) (by simp only [zV, acs, reduceCtorEq, aa, V, ad, ag, af, ae, ah]) ?_
  apply k0; clear k0; simp only [zP, V]
  iterate 5 (refine aj rfl fun _ k0 => ?_; simp only [zO, zT, acs, reduceCtorEq, aa, V, ad, ag, af, ae, ah]; (repeat refine an ?_); (try refine .inl ?_); apply k0; clear k0; simp only [zP, V])
  refine am ?_
  apply k23; clear k23; refine kp [0, 2, 4, 6, 7, 11, 12, 13, 14, 15, 48, 49, 50, 51] ?_
  refine ai fun _ k24 => ?_
  obtain ⟨k, hkd⟩ : ∃ k, k = pos (aC (ouL m cur a)) (m.out (cur.getD i 0) a) := ⟨_, rfl⟩
  rw [← hkd]
  have hkl9 : k < (aC (ouL m cur a)).length := by rw [hkd]; exact gK hin
  have hko : m.out (cur.getD i 0) a = (aC (ouL m cur a)).getD k 0 := by rw [hkd]; exact (kO hin).symm
  have hFl : (dO m ini cur a i (aC (ouL m cur a))).length = 2 * (aC (ouL m cur a)).length := ma ..
  have hg0 : (dO m ini cur a i (aC (ouL m cur a))).getD (k * 2) [] = (cm m ini cur a i ((aC (ouL m cur a)).getD k 0)) := by rw [Nat.mul_comm]; exact oA hkl9
  have hc0 : (bW 4 (dO m ini cur a i (aC (ouL m cur a)))).getD (k * 2) .junk = .row (k * 2 + 1 + 1 + 1 + 1) (cm m ini cur a i ((aC (ouL m cur a)).getD k 0)).length := by rw [qC4 (by omega), hg0]
  have hr0 : (dP 3 (dO m ini cur a i (aC (ouL m cur a))))[k * 2]? = some (.row (.int .i64) 3 (cm m ini cur a i ((aC (ouL m cur a)).getD k 0)).length (cm m ini cur a i ((aC (ouL m cur a)).getD k 0))) := by rw [q9 (by omega), hg0]
  have hgl : ((cm m ini cur a i ((aC (ouL m cur a)).getD k 0)) ++ [ini.getD i 0]).length = (cm m ini cur a i ((aC (ouL m cur a)).getD k 0)).length + 1 := aq
  have hw0 : bJ (bW 4 (dO m ini cur a i (aC (ouL m cur a)))) (k * 2) [.row (k * 2 + 1 + 1 + 1 + 1) ((cm m ini cur a i ((aC (ouL m cur a)).getD k 0)).length + 1)] = bW 4 ((dO m ini cur a i (aC (ouL m cur a))).set (k * 2) (cm m ini cur a i ((aC (ouL m cur a)).getD k 0) ++ [ini.getD i 0])) := by rw [← hgl]; exact qW4 (by omega)
  have hs0 : (dP 3 (dO m ini cur a i (aC (ouL m cur a)))).set (k * 2) (.row (.int .i64) 3 ((cm m ini cur a i ((aC (ouL m cur a)).getD k 0)).length + 1) ((cm m ini cur a i ((aC (ouL m cur a)).getD k 0)) ++ [ini.getD i 0])) = dP 3 ((dO m ini cur a i (aC (ouL m cur a))).set (k * 2) (cm m ini cur a i ((aC (ouL m cur a)).getD k 0) ++ [ini.getD i 0])) := by rw [← hgl]; exact pS
  have hgll : (cm m ini cur a i ((aC (ouL m cur a)).getD k 0)).length ≤ i := Ay
  refine bp hP hN Try.mixed rfl ?_
  iterate 17 (refine aj rfl fun _ k0 => ?_; simp only [zE, op1, ev, lkp, d5, bQ, cA, zG, Ty.dflt, Ty.size, Nat.mul_one, ne_eq, not_false_eq_true, Int.natCast_one, Int.mul_one, bM, d4, bS, cI, acs, bY, dv, cb, dm, rep, br, cf, cr, fo, ew, cK, d7, eE, Nat.div_one, cR, df, dite_true, eh, reduceCtorEq, aa, V, ad, ag, af, ae, Try.el41, Try.el91, Try.st66, Try.td1, Try.td3, Try.td41, Try.td66, Try.td91, ah, hc0, hr0, i9, hFl, Nat.add_zero]; (repeat refine an ?_); (try refine .inl ?_); apply k0; clear k0; simp only [zP, V, hw0, hs0, Nat.add_zero])
  refine am ?_
  refine ⟨by exact oM (tU (k * 2)) [([], [], 0), ([], [], 0), ([], [], 0), ([], [], 0), ([], [3], 0), ([], [3], 0), ([], [3], 0), ([], [1], 0), ([], [1], 0), ([], [], 0), ([], [], 0), ([], [], 0), ([], [], 0), ([4], [4], 0), ([], [3], 0), ([], [3], 0), ([3], [3], 0)] (by kernel_rfl), ?_⟩
  apply k24; clear k24; refine kp [0, 2, 4, 6, 7, 11, 12, 13, 14, 15, 48, 49, 50, 51] ?_
  have hsk := hs _ (bm (w := cur) (i := i) (by omega))
  have q1 := hm.rl (cur.getD i 0).toNat (by omega)
  have hF1l : ((dO m ini cur a i (aC (ouL m cur a))).set (k * 2) (cm m ini cur a i ((aC (ouL m cur a)).getD k 0) ++ [ini.getD i 0])).length = 2 * (aC (ouL m cur a)).length := by rw [List.length_set]; exact hFl
  have hg1 : ((dO m ini cur a i (aC (ouL m cur a))).set (k * 2) (cm m ini cur a i ((aC (ouL m cur a)).getD k 0) ++ [ini.getD i 0])).getD (k * 2 + 1) [] = (bB m cur a i ((aC (ouL m cur a)).getD k 0)) := by rw [uT (by omega), Nat.mul_comm]; exact pa hkl9
  have hc1 : (bW 4 ((dO m ini cur a i (aC (ouL m cur a))).set (k * 2) (cm m ini cur a i ((aC (ouL m cur a)).getD k 0) ++ [ini.getD i 0]))).getD (k * 2 + 1) .junk = .row (k * 2 + 1 + 1 + 1 + 1 + 1) (bB m cur a i ((aC (ouL m cur a)).getD k 0)).length := by rw [qC4 (by omega), hg1]
  have hr1 : (dP 3 ((dO m ini cur a i (aC (ouL m cur a))).set (k * 2) (cm m ini cur a i ((aC (ouL m cur a)).getD k 0) ++ [ini.getD i 0])))[k * 2 + 1]? = some (.row (.int .i64) 3 (bB m cur a i ((aC (ouL m cur a)).getD k 0)).length (bB m cur a i ((aC (ouL m cur a)).getD k 0))) := by rw [q9 (by omega), hg1]
  have hhl : ((bB m cur a i ((aC (ouL m cur a)).getD k 0)) ++ [m.nxt (cur.getD i 0) a]).length = (bB m cur a i ((aC (ouL m cur a)).getD k 0)).length + 1 := aq
  have hst9 : ((dO m ini cur a i (aC (ouL m cur a))).set (k * 2) (cm m ini cur a i ((aC (ouL m cur a)).getD k 0) ++ [ini.getD i 0])).set (k * 2 + 1) ((bB m cur a i ((aC (ouL m cur a)).getD k 0)) ++ [m.nxt (cur.getD i 0) a]) = dO m ini cur a (i + 1) (aC (ouL m cur a)) := by rw [Nat.mul_comm k 2]; exact (p8 hor hkl9 hko).symm
  have hw1 : bJ (bW 4 ((dO m ini cur a i (aC (ouL m cur a))).set (k * 2) (cm m ini cur a i ((aC (ouL m cur a)).getD k 0) ++ [ini.getD i 0]))) (k * 2 + 1) [.row (k * 2 + 1 + 1 + 1 + 1 + 1) ((bB m cur a i ((aC (ouL m cur a)).getD k 0)).length + 1)] = bW 4 (dO m ini cur a (i + 1) (aC (ouL m cur a))) := by rw [← hhl, ← hst9]; exact qW4 (by omega)
  have hs1 : (dP 3 ((dO m ini cur a i (aC (ouL m cur a))).set (k * 2) (cm m ini cur a i ((aC (ouL m cur a)).getD k 0) ++ [ini.getD i 0]))).set (k * 2 + 1) (.row (.int .i64) 3 ((bB m cur a i ((aC (ouL m cur a)).getD k 0)).length + 1) ((bB m cur a i ((aC (ouL m cur a)).getD k 0)) ++ [(m.nx.getD (cur.getD i 0).toNat []).getD a.toNat 0])) = dP 3 (dO m ini cur a (i + 1) (aC (ouL m cur a))) := by rw [← hhl, ← hst9]; exact pS
  have hcll : (bB m cur a i ((aC (ouL m cur a)).getD k 0)).length ≤ i := jN
  refine bp hP hN Try.mixed rfl ?_
  iterate 27 (refine aj rfl fun _ k0 => ?_; simp only [zE, op1, ev, lkp, d5, bQ, cA, zG, Ty.dflt, Ty.size, Nat.mul_one, ne_eq, not_false_eq_true, Int.natCast_one, Int.mul_one, bM, d4, bS, cI, acs, bY, iu, dv, cb, dm, rep, br, cf, cr, fo, ew, cK, d7, eE, Nat.div_one, cR, df, dite_true, eh, reduceCtorEq, aa, V, ad, ag, af, ae, Try.el22, Try.el41, Try.el91, Try.st24, Try.st62, Try.st66, Try.td1, Try.td2, Try.td22, Try.td24, Try.td3, Try.td41, Try.td60, Try.td62, Try.td66, Try.td91, ah, hc1, hr1, i9, hF1l]; (repeat refine an ?_); (try refine .inl ?_); apply k0; clear k0; simp only [zP, V, hw1, hs1])
  refine am ?_
  refine ⟨by exact oM (tU (k * 2 + 1)) [([], [], 0), ([], [], 0), ([], [], 0), ([], [], 0), ([], [3], 0), ([], [3], 0), ([], [3], 0), ([], [], 0), ([], [0], 0), ([], [0], 0), ([], [0], 0), ([], [0], 0), ([], [1], 0), ([], [1], 0), ([], [], 0), ([], [], 0), ([], [], 0), ([], [], 0), ([], [], 0), ([], [], 0), ([], [], 0), ([], [], 0), ([], [], 0), ([4], [4], 0), ([], [3], 0), ([], [3], 0), ([3], [3], 0)] (by kernel_rfl), ?_⟩
  apply k21; clear k21; refine kp [0, 2, 4, 6, 7, 11, 12, 13, 14, 15, 48, 49, 50, 51] ?_
  refine ak hP hN rfl ?_
  iterate 2 (refine aj rfl fun _ k0 => ?_; simp only [zO, zT, acs, reduceCtorEq, aa, V, ad, ag, af, ae, ah]; (repeat refine an ?_); (try refine .inl ?_); apply k0; clear k0; simp only [zP, V])
  refine am ?_
  refine ⟨_, _, ?_, aw [0, 2, 4, 6, 7, 11, 12, 48, 49, 50], i + 1, by omega, rfl, rfl⟩
  omega
 (try simp only [zB, reduceCtorEq] at hc20)
 refine aX ?_
 apply k15; clear k15; refine kp [0, 2, 4, 6, 7, 11, 12, 48, 49, 50, 51] ?_
 refine ai fun _ k25 => ?_
 have hkw : i = cur.length := by omega
 rw [hkw]
 refine kx 3 (T := 66) (sz := 2) (v := 0) _ [_, _, _, _] [] rfl (fun c h => by cases h) rfl fun dd hdd => ?_
 simp only [ci, cE, ba, aM]
 have hgl2 : (lX m ini cur a (aC (ouL m cur a))).length = (aC (ouL m cur a)).length := az ..
 refine qe 12 3 (.pair (.list (.int .i64)) (.pair (.list (.int .i64)) .unit)) (aC (ouL m cur a)).length rfl rfl (by rw [rq, ← hgl2]; exact kY _ _) (by rw [az, ma]; show _ = _ * 2; omega) ?_
 simp only [ci, cE]
 refine cO 3 rfl ?_; simp only [aF, bl, zS, aa, and_self, and_true, true_and, and_false, false_and, if_true, if_false, eq_self, reduceCtorEq, Nat.one_ne_zero, Nat.zero_ne_one]
 refine ak hP hN rfl ?_
 iterate 4 (refine aj rfl fun _ k0 => ?_; simp only [zO, zT, acs, reduceCtorEq, aa, V, ad, ag, af, ae, ah]; (repeat refine an ?_); (try refine .inl ?_); apply k0; clear k0; simp only [zP, V])
 refine am ?_
 apply k25; clear k25; refine kp [0, 2, 4, 6, 7, 11, 12, 48, 49, 50, 51] ?_
 refine aB ?_
 refine ⟨by first | exact .inl rfl | exact .inr rfl, _, rfl, _, _, rfl, ?_, ?_⟩ <;> simp only [fzV, fz1, fzC, aF, bl, zP, aa, V, ah]
 all_goals rfl
set_option maxHeartbeats 4000000 in
theorem y3 (f : Nat) (m : Mly) (hm : MOK m) (IH : ∀ (ini cur w : List Int) (n : Nat) (fl : List Value), 4098 ≤ f + n → n ≤ 4096 → fl.length = n * 3 → cU m cur → ini.length = cur.length → 0 < cur.length → cur.length ≤ 1000 → dx m w → er Try.prog [.vars 62 [.int .i64 m.inp, .int .i64 m.st, .list (.list (.int .i64)) m.nx, .list (.list (.int .i64)) m.ot, .rwc 1 n], .rowc 52 3 n (eg fl)] 33 [.one (.ptr 0 0 0 0), .agg [.list (.int .i64) ini, .list (.int .i64) cur], .one (.list (.int .i64) w)] { av := .one (.int .i64 (n : Int)), upd := [(0, .vars 62 [.int .i64 m.inp, .int .i64 m.st, .list (.list (.int .i64)) m.nx, .list (.list (.int .i64)) m.ot, .rwc 1 (n + (cp m f ini cur w n).length)]), (1, .rowc 52 3 (n + (cp m f ini cur w n).length) (eg fl ++ ndC (cp m f ini cur w n)))], fp := [0, 1] }) (ini cur w : List Int) (n : Nat) (fl : List Value) (hf : 4098 ≤ (f + 1) + n) (hn : n ≤ 4096) (hfl : fl.length = n * 3) (hs : cU m cur) (hil : ini.length = cur.length) (h0 : 0 < cur.length) (hl : cur.length ≤ 1000) (hw : dx m w) : er Try.prog [.vars 62 [.int .i64 m.inp, .int .i64 m.st, .list (.list (.int .i64)) m.nx, .list (.list (.int .i64)) m.ot, .rwc 1 n], .rowc 52 3 n (eg fl)] 33 [.one (.ptr 0 0 0 0), .agg [.list (.int .i64) ini, .list (.int .i64) cur], .one (.list (.int .i64) w)] { av := .one (.int .i64 (n : Int)), upd := [(0, .vars 62 [.int .i64 m.inp, .int .i64 m.st, .list (.list (.int .i64)) m.nx, .list (.list (.int .i64)) m.ot, .rwc 1 (n + (cp m (f + 1) ini cur w n).length)]), (1, .rowc 52 3 (n + (cp m (f + 1) ini cur w n).length) (eg fl ++ ndC (cp m (f + 1) ini cur w n)))], fp := [0, 1] } := by
 refine mw _ _ Try.func33 rfl (by kernel_rfl) (Nat.le_of_ble_eq_true rfl) (by intro k hk; simp only [au, aE, Nat.zero_add, V] at hk; simp only [List.mem_cons, List.not_mem_nil, or_false]; omega) (fun C hP hN hB => ?_)
 replace hB : C.bL.length = 2 := by rw [hB]; rfl
 replace hN : C.N = 123 := hN
 simp only [bg, V]
 refine ai fun _ k1 => ?_
 refine ak hP hN rfl ?_
 iterate 2 (refine aj rfl fun _ k0 => ?_; simp only [zO, zT, acs, reduceCtorEq, aa, V, ad, ag, af, ae, ah, aL, aY, aq, aI, ar]; (repeat refine And.intro (by first | omega | assumption | exact rfl | exact ⟨n, 1, ⟨rfl, rfl, by decide⟩, by omega, by omega⟩) ?_); (try refine .inl ?_); apply k0; clear k0; simp only [zP, V])
 refine am ?_
 apply k1; clear k1; refine kp [0, 1, 2, 4, 6] ?_
 refine ai fun _ k2 => ?_
 have hdv : (eg fl).length / 3 = n := by rw [aL, hfl]; omega
 have hdv2 : fl.length / 3 = n := by omega
 have hxl : (eg fl).length = n * 3 := by rw [aL, hfl]
 refine ak hP hN rfl ?_
 iterate 6 (refine aj rfl fun _ k0 => ?_; simp only [zO, zT, acs, reduceCtorEq, aa, V, ad, ag, af, ae, ah, aL, aY, aq, aI, ar, hdv, hdv2]; (repeat refine And.intro (by first | omega | assumption | exact rfl | exact ⟨n, 1, ⟨rfl, rfl, by decide⟩, by omega, by omega⟩) ?_); (try refine .inl ?_); apply k0; clear k0; simp only [zP, V])
 refine am ?_
 apply k2; clear k2; refine kp [0, 1, 2, 4, 6, 7] ?_
 refine ai fun _ k3 => ?_
 refine km ?_; simp only [aM, List.append_assoc, ba]
 refine bp hP hN Try.mixed rfl ?_
 iterate 7 (refine aj rfl fun _ k0 => ?_; simp only [zO, zT, acs, reduceCtorEq, aa, V, ad, ag, af, ae, ah, aL, aY, aq, aI, ar, hxl]; (repeat refine And.intro (by first | omega | assumption | exact rfl | exact ⟨n, 1, ⟨rfl, rfl, by decide⟩, by omega, by omega⟩) ?_); (try refine .inl ?_); apply k0; clear k0; simp only [zP, V])
 refine aj rfl fun _ k0 => ?_
 refine aN (h := aA (um ini (by omega))) rfl rfl (by first | exact rfl | (simp only [ev, zP, aa, V]; exact rfl)) (by simp only [zV, acs, reduceCtorEq, aa, V, ad, ag, af, ae, ah, aL, aY, aq, aI, ar, hxl]) ?_
 apply k0; clear k0; simp only [zP, V]
 (refine aj rfl fun _ k0 => ?_; simp only [zO, zT, acs, reduceCtorEq, aa, V, ad, ag, af, ae, ah, aL, aY, aq, aI, ar, hxl]; (repeat refine And.intro (by first | omega | assumption | exact rfl | exact ⟨n, 1, ⟨rfl, rfl, by decide⟩, by omega, by omega⟩) ?_); (try refine .inl ?_); apply k0; clear k0; simp only [zP, V])
 (refine aj rfl fun _ k0 => ?_; simp only [zO, zT, acs, reduceCtorEq, aa, V, ad, ag, af, ae, ah, aL, aY, aq, aI, ar, hxl]; (repeat refine And.intro (by first | omega | assumption | exact rfl | exact ⟨n, 1, ⟨rfl, rfl, by decide⟩, by omega, by omega⟩) ?_); refine Or.inr (Or.inr (Or.inr (Or.inr ⟨3, by exact rfl, ?_⟩))); refine k0 _ ?_; clear k0; simp only [zP, V])
 iterate 4 (refine aj rfl fun _ k0 => ?_; simp only [zO, zT, acs, reduceCtorEq, aa, V, ad, ag, af, ae, ah, aL, aY, aq, aI, ar, hxl]; (repeat refine And.intro (by first | omega | assumption | exact rfl | exact ⟨n, 1, ⟨rfl, rfl, by decide⟩, by omega, by omega⟩) ?_); (try refine .inl ?_); apply k0; clear k0; simp only [zP, V])
 refine am ?_
 refine ⟨by kernel_rfl, ?_⟩
 apply k3; clear k3; refine kp [0, 1, 2, 4, 6, 7] ?_
 refine ai fun _ k4 => ?_
 refine ai fun _ k5 => ?_
 refine ef (L1 := [_, _, _]) rfl (by rw [hB]; simp) rfl (by simp [dT, bI, cz]) ?_
 refine jx 1 (n * 3 + 2) kdT 58 (by decide) rfl (AY hxl) ?_
 simp only [zS, au, aE, aM, ba, Nat.zero_add, V, AT hxl]
 have e9 : ∀ a b c : AC, [a, b, c] = a :: b :: c :: ndC [] := fun _ _ _ => rfl
 rw [e9 (.list (.int .i64) ini)]
 have hdv1 : (n * 3 + 3) / 3 = n + 1 := by omega
 refine ak hP hN rfl ?_
 iterate 6 (refine aj rfl fun _ k0 => ?_; simp only [zO, zT, acs, reduceCtorEq, aa, V, ad, ag, af, ae, ah, aL, aY, aq, aI, ar, hfl, hdv1]; (repeat refine And.intro (by first | omega | assumption | exact rfl | exact ⟨n, 1, ⟨rfl, rfl, by decide⟩, by omega, by omega⟩) ?_); (try refine .inl ?_); apply k0; clear k0; simp only [zP, V])
 refine am ?_
 apply k5; clear k5; refine kp [0, 1, 2, 4, 6, 7, 36] ?_
 refine cd (fun hc6 => ?_) (fun hc6 => ?_)
 ·(try simp only [zB, reduceCtorEq] at hc6)
  refine ai fun _ k7 => ?_
  refine ak hP hN rfl ?_
  iterate 2 (refine aj rfl fun _ k0 => ?_; simp only [zO, zT, acs, reduceCtorEq, aa, V, ad, ag, af, ae, ah, aL, aY, aq, aI, ar]; (repeat refine And.intro (by first | omega | assumption | exact rfl | exact ⟨n, 1, ⟨rfl, rfl, by decide⟩, by omega, by omega⟩) ?_); (try refine .inl ?_); apply k0; clear k0; simp only [zP, V])
  refine am ?_
  apply k7; clear k7; refine kp [0, 1, 2, 4, 6, 7, 36] ?_
  refine d8 3 1 (t := kdT) rfl rfl ?_
  simp only [aF, bl, fr3, zS, aa, and_self, and_true, true_and, and_false, false_and, if_true, if_false, eq_self, reduceCtorEq, Nat.one_ne_zero, Nat.zero_ne_one]
  refine da [6] ?_; simp only [cC, lkp, zE, reduceCtorEq, aa]
  refine cM (n := 3) (L1 := [_, _, _]) rfl rfl (by rw [hB]; simp) rfl (by simp [dT, bI, cz, dr]) ?_
  refine ef (L1 := [_, _]) rfl (by rw [hB]; exact Nat.le_refl _) rfl (by simp [dT, bI, cz, dr]) ?_
  refine aB ?_
  refine ⟨by first | exact .inl rfl | exact .inr rfl, _, rfl, ?_⟩; simp only [zP, aa, V, ah, aL, aY, aq, aI, ar]
  try refine ⟨?_, rfl⟩
  first
  | (rw [eW (by omega)]; all_goals rfl)
  | (rw [eH (by omega) (hW.symm.trans hWn)]; all_goals rfl)
  | (rw [cW (by omega) hW.symm, fC hD hbrk, au, show n + (D.length + 1) = n + 1 + D.length by omega]; all_goals rfl)
  | (rw [hie, aJ] at hD
     rw [cW (by omega) hW.symm, hD, au, show n + (D.length + 1) = n + 1 + D.length by omega]; all_goals rfl)
 (try simp only [zB, reduceCtorEq] at hc6)
 refine ax ?_
 apply k4; clear k4; refine kp [0, 1, 2, 4, 6, 7, 36] ?_
 refine ai fun _ k8 => ?_
 refine ai fun _ k9 => ?_
 refine ak hP hN rfl ?_
 iterate 4 (refine aj rfl fun _ k0 => ?_; simp only [zO, zT, acs, reduceCtorEq, aa, V, ad, ag, af, ae, ah, aL, aY, aq, aI, ar]; (repeat refine And.intro (by first | omega | assumption | exact rfl | exact ⟨n, 1, ⟨rfl, rfl, by decide⟩, by omega, by omega⟩) ?_); (try refine .inl ?_); apply k0; clear k0; simp only [zP, V])
 refine' aP (want := true) 4 rfl (m := 41) (by simp only [zP, aa, V]; exact rfl) (by kernel_rfl) rfl rfl rfl rfl rfl (fun hg10 => ?a10) ?b10 ?c10
 case a10 =>
  have hq10 := hg10; (try simp only [zB, reduceCtorEq] at hg10); simp only [zE]
  iterate 4 (refine bf rfl fun _ k0 => ?_; simp only [zO, zT, acs, reduceCtorEq, aa, V, ad, ag, af, ae, ah, aL, aY, aq, aI, ar]; (repeat refine And.intro (by first | omega | assumption | exact rfl | exact ⟨n, 1, ⟨rfl, rfl, by decide⟩, by omega, by omega⟩) ?_); (try refine .inl ?_); apply k0; clear k0; simp only [zP, V])
  (refine aj rfl fun _ k0 => ?_; simp only [zO, zT, acs, reduceCtorEq, aa, V, ad, ag, af, ae, ah, aL, aY, aq, aI, ar]; (repeat refine And.intro (by first | omega | assumption | exact rfl | exact ⟨n, 1, ⟨rfl, rfl, by decide⟩, by omega, by omega⟩) ?_); (try refine .inl ?_); apply k0; clear k0; simp only [zP, V])
  refine am ?_
  refine ⟨by simp only [zP, aa, V]; exact rfl, rfl, ?_, rfl⟩; (repeat refine aQ rfl ?_); exact bn (by exact rfl) hq10
 case b10 => exact cq
 simp only [b7, aT]
 refine am ?_
 apply k9; clear k9; refine kp [0, 1, 2, 4, 6, 7, 36, 46] ?_
 refine cd (fun hc11 => ?_) (fun hc11 => ?_)
 ·(try simp only [zB, reduceCtorEq] at hc11)
  refine bp hP hN Try.mixed rfl ?_
  iterate 6 (refine aj rfl fun _ k0 => ?_; simp only [zO, zT, acs, reduceCtorEq, aa, V, ad, ag, af, ae, ah, aL, aY, aq, aI, ar]; (repeat refine And.intro (by first | omega | assumption | exact rfl | exact ⟨n, 1, ⟨rfl, rfl, by decide⟩, by omega, by omega⟩) ?_); (try refine .inl ?_); apply k0; clear k0; simp only [zP, V])
  refine aj rfl fun _ k0 => ?_
  refine aN (h := aA (zt m cur hm hs hl)) rfl rfl (by first | exact rfl | (simp only [ev, zP, aa, V]; exact rfl)) (by simp only [zV, acs, reduceCtorEq, aa, V, ad, ag, af, ae, ah, aL, aY, aq, aI, ar]) ?_
  apply k0; clear k0; simp only [zP, V]
  iterate 4 (refine aj rfl fun _ k0 => ?_; simp only [zO, zT, acs, reduceCtorEq, aa, V, ad, ag, af, ae, ah, aL, aY, aq, aI, ar]; (repeat refine And.intro (by first | omega | assumption | exact rfl | exact ⟨n, 1, ⟨rfl, rfl, by decide⟩, by omega, by omega⟩) ?_); (try refine .inl ?_); apply k0; clear k0; simp only [zP, V])
  refine am ?_
  refine ⟨by kernel_rfl, ?_⟩
  apply k8; clear k8; refine kp [0, 1, 2, 4, 6, 7, 36, 46] ?_
  refine ai fun _ k12 => ?_
  refine ai fun _ k13 => ?_
  obtain ⟨W, hW⟩ : ∃ W, W = gE m ini cur w := ⟨_, rfl⟩
  have hWs : dx m W := by rw [hW]; exact vY hw
  refine sK 2 (v' := .one (.list (.int .i64) W)) rfl (VLE.of_eq (by first | (show AV.one (.list (.int .i64) ((fdW m cur).getD [])) = _; rw [hW]; unfold gE; rw [if_pos (by omega)]; done) | (show AV.one (.list (.int .i64) w) = _; rw [hW]; unfold gE; rw [if_neg (by omega)]; done))) ?_
  refine ak hP hN rfl ?_
  iterate 3 (refine aj rfl fun _ k0 => ?_; simp only [zO, zT, acs, reduceCtorEq, aa, V, ad, ag, af, ae, ah, aL, aY, aq, aI, ar]; (repeat refine And.intro (by first | omega | assumption | exact rfl | exact ⟨n, 1, ⟨rfl, rfl, by decide⟩, by omega, by omega⟩) ?_); (try refine .inl ?_); apply k0; clear k0; simp only [zP, V])
  refine am ?_
  apply k13; clear k13; refine kp [0, 1, 2, 4, 6, 7, 36, 46, 59] ?_
  refine cd (fun hc14 => ?_) (fun hc14 => ?_)
  ·(try simp only [zB, reduceCtorEq] at hc14)
   have hWn : W = [] := List.eq_nil_of_length_eq_zero (by omega)
   refine ai fun _ k15 => ?_
   refine ak hP hN rfl ?_
   iterate 2 (refine aj rfl fun _ k0 => ?_; simp only [zO, zT, acs, reduceCtorEq, aa, V, ad, ag, af, ae, ah, aL, aY, aq, aI, ar]; (repeat refine And.intro (by first | omega | assumption | exact rfl | exact ⟨n, 1, ⟨rfl, rfl, by decide⟩, by omega, by omega⟩) ?_); (try refine .inl ?_); apply k0; clear k0; simp only [zP, V])
   refine am ?_
   apply k15; clear k15; refine kp [0, 1, 2, 4, 6, 7, 36, 46, 59] ?_
   refine d8 3 1 (t := kdT) rfl rfl ?_
   simp only [aF, bl, fr3, zS, aa, and_self, and_true, true_and, and_false, false_and, if_true, if_false, eq_self, reduceCtorEq, Nat.one_ne_zero, Nat.zero_ne_one]
   refine da [6] ?_; simp only [cC, lkp, zE, reduceCtorEq, aa]
   refine cM (n := 3) (L1 := [_, _, _]) rfl rfl (by rw [hB]; simp) rfl (by simp [dT, bI, cz, dr]) ?_
   refine ef (L1 := [_, _]) rfl (by rw [hB]; exact Nat.le_refl _) rfl (by simp [dT, bI, cz, dr]) ?_
   refine aB ?_
   refine ⟨by first | exact .inl rfl | exact .inr rfl, _, rfl, ?_⟩; simp only [zP, aa, V, ah, aL, aY, aq, aI, ar]
   try refine ⟨?_, rfl⟩
   first
   | (rw [eW (by omega)]; all_goals rfl)
   | (rw [eH (by omega) (hW.symm.trans hWn)]; all_goals rfl)
   | (rw [cW (by omega) hW.symm, fC hD hbrk, au, show n + (D.length + 1) = n + 1 + D.length by omega]; all_goals rfl)
   | (rw [hie, aJ] at hD
      rw [cW (by omega) hW.symm, hD, au, show n + (D.length + 1) = n + 1 + D.length by omega]; all_goals rfl)
  (try simp only [zB, reduceCtorEq] at hc14)
  obtain ⟨a0, w2, hWc⟩ : ∃ a0 w2, W = a0 :: w2 := by
    cases W with
    | nil => simp at hc14
    | cons a0 w2 => exact ⟨_, _, rfl⟩
  subst hWc
  refine ax ?_
  apply k12; clear k12; refine kp [0, 1, 2, 4, 6, 7, 36, 46, 59] ?_
  refine ai fun _ k16 => ?_
  have ha0 : 0 ≤ a0 ∧ a0 < m.inp := hWs a0 (aH ..)
  have hw2 : dx m w2 := fun x hx => hWs x (aG _ hx)
  refine bp hP hN Try.mixed rfl ?_
  iterate 11 (refine aj rfl fun _ k0 => ?_; simp only [zE, op1, ev, lkp, d5, bQ, iu, bM, d4, Nat.mul_one, bS, cI, acs, Ty.dflt, zG, bY, cA, Ty.size, ne_eq, not_false_eq_true, Int.natCast_one, Int.mul_one, eh, cf, br, reduceCtorEq, aa, V, ad, ag, af, ae, Try.el27, Try.el41, Try.st52, Try.st62, Try.td1, Try.td27, Try.td3, Try.td41, Try.td52, Try.td60, Try.td62, ah, aL, aY, aq, aI, ar, hfl]; (repeat refine And.intro (by first | omega | assumption | exact rfl | exact ⟨n, 1, ⟨rfl, rfl, by decide⟩, by omega, by omega⟩) ?_); (try refine .inl ?_); apply k0; clear k0; simp only [zP, V, zb hxl])
  refine am ?_
  refine ⟨by kernel_rfl, ?_⟩
  apply k16; clear k16; refine kp [0, 1, 2, 4, 6, 7, 36, 46, 59] ?_
  refine ai fun _ k17 => ?_
  refine bp hP hN Try.mixed rfl ?_
  iterate 5 (refine aj rfl fun _ k0 => ?_; simp only [zO, zT, acs, reduceCtorEq, aa, V, ad, ag, af, ae, ah, aL, aY, aq, aI, ar]; (repeat refine And.intro (by first | omega | assumption | exact rfl | exact ⟨n, 1, ⟨rfl, rfl, by decide⟩, by omega, by omega⟩) ?_); (try refine .inl ?_); apply k0; clear k0; simp only [zP, V])
  refine aj rfl fun _ k0 => ?_
  refine aN (h := jl (k := 0) (T := 62) (cs := [.int .i64 m.inp, .int .i64 m.st, .list (.list (.int .i64)) m.nx, .list (.list (.int .i64)) m.ot]) (c := .rwc 1 (n + 1)) rfl (by simp) (fun x => pC m x ini cur a0 hm hs ha0 h0 hl hil _ 0 rfl)) rfl rfl (by first | exact rfl | (simp only [ev, zP, aa, V]; exact rfl)) (by simp only [zV, acs, reduceCtorEq, aa, V, ad, ag, af, ae, ah, aL, aY, aq, aI, ar]) ?_
  apply k0; clear k0; simp only [zP, V]
  iterate 5 (refine aj rfl fun _ k0 => ?_; simp only [zO, zT, acs, reduceCtorEq, aa, V, ad, ag, af, ae, ah, aL, aY, aq, aI, ar]; (repeat refine And.intro (by first | omega | assumption | exact rfl | exact ⟨n, 1, ⟨rfl, rfl, by decide⟩, by omega, by omega⟩) ?_); (try refine .inl ?_); apply k0; clear k0; simp only [zP, V])
  refine am ?_
  refine ⟨by kernel_rfl, ?_⟩
  apply k17; clear k17; refine kp [0, 1, 2, 4, 6, 7, 8, 9, 36, 46, 59] ?_
  refine ai fun _ k18 => ?_
  refine ai fun _ k19 => ?_
  have hkl := iH (ouL m cur a0)
  have hol : (ouL m cur a0).length = cur.length := az ..
  refine ak hP hN rfl ?_
  iterate 3 (refine aj rfl fun _ k0 => ?_; simp only [zO, zT, acs, reduceCtorEq, aa, V, ad, ag, af, ae, ah, aL, aY, aq, aI, ar]; (repeat refine And.intro (by first | omega | assumption | exact rfl | exact ⟨n, 1, ⟨rfl, rfl, by decide⟩, by omega, by omega⟩) ?_); (try refine .inl ?_); apply k0; clear k0; simp only [zP, V])
  refine am ?_
  apply k19; clear k19; refine kp [0, 1, 2, 4, 6, 7, 8, 9, 36, 46, 59, 80, 81, 82] ?_
  refine ay ?_
  refine bb (fun n20 s20 => ∃ (i : Nat) (D : List bc) (K : List dR), (i ≤ (aC (ouL m cur a0)).length) ∧ (((aC (ouL m cur a0)).take i).foldl (dZ n (fun i c k => cp m f i c w2 k) m ini cur a0) ([], []) = (D, K)) ∧ (n + 1 + D.length ≤ 4097) ∧ (K.length ≤ i) ∧ n20 = (aC (ouL m cur a0)).length - i ∧ s20 = { env := [(0, .one (.ptr 0 0 0 0)), (2, .one (.list (.int .i64) (a0 :: w2))), (6, .one (.int .i64 0)), (7, .one (.int .i64 (n : Int))), (9, .one (.list (.pair (.list (.int .i64)) (.pair (.list (.int .i64)) .unit)) (lX m ini cur a0 (aC (ouL m cur a0))))), (80, .one (.list (.int .i64) (aC (ouL m cur a0)))), (81, .one (.int .i64 ((aC (ouL m cur a0)).length : Int))), (82, .one (.int .i64 (i : Int)))], L := [.vars 62 [.int .i64 m.inp, .int .i64 m.st, .list (.list (.int .i64)) m.nx, .list (.list (.int .i64)) m.ot, .rwc 1 (n + 1 + D.length)], .rowc 52 3 (n + 1 + D.length) (eg fl ++ .list (.int .i64) ini :: .int .i64 a0 :: .row 3 K.length :: ndC D), .vars 66 [.list (.int .i64) ini, .list (.int .i64) cur], .row kdT 58 K.length K] }) ?_ ?_
  ·exact ⟨_, _, aw [0, 2, 6, 7, 9, 80, 81, 82], 0, [], [], Nat.zero_le _, rfl, by simp only [aE]; omega, Nat.zero_le _, rfl, rfl⟩
  rintro n20 s20 ⟨i, D, K, hi, hD, hDl, hKl, rfl, rfl⟩
  refine ai fun _ k21 => ?_
  refine ak hP hN rfl ?_
  (refine aj rfl fun _ k0 => ?_; simp only [zO, zT, acs, reduceCtorEq, aa, V, ad, ag, af, ae, ah, aL, aY, aq, aI, ar]; (repeat refine And.intro (by first | omega | assumption | exact rfl | exact ⟨n, 1, ⟨rfl, rfl, by decide⟩, by omega, by omega⟩) ?_); (try refine .inl ?_); apply k0; clear k0; simp only [zP, V])
  refine am ?_
  apply k21; clear k21; refine kp [0, 2, 6, 7, 9, 80, 81, 82, 83] ?_
  refine ai fun _ k22 => ?_
  refine cd (fun hc23 => ?_) (fun hc23 => ?_)
  ·(try simp only [zB, reduceCtorEq] at hc23)
   refine ax ?_
   apply k22; clear k22; refine kp [0, 2, 6, 7, 9, 80, 81, 82, 83] ?_
   refine ai fun _ k24 => ?_
   refine ay ?_
   refine ai fun _ k25 => ?_
   refine ak hP hN rfl ?_
   iterate 5 (refine aj rfl fun _ k0 => ?_; simp only [zO, zT, acs, reduceCtorEq, aa, V, ad, ag, af, ae, ah, aL, aY, aq, aI, ar]; (repeat refine And.intro (by first | omega | assumption | exact rfl | exact ⟨n, 1, ⟨rfl, rfl, by decide⟩, by omega, by omega⟩) ?_); (try refine .inl ?_); apply k0; clear k0; simp only [zP, V])
   refine am ?_
   apply k25; clear k25; refine kp [0, 2, 6, 7, 9, 10, 11, 80, 81, 82, 83] ?_
   refine ai fun _ k26 => ?_
   refine ai fun _ k27 => ?_
   have hdvD : (n * 3 + (D.length * 3 + 1 + 1 + 1)) / 3 = n + 1 + D.length := by omega
   refine ak hP hN rfl ?_
   iterate 6 (refine aj rfl fun _ k0 => ?_; simp only [zO, zT, acs, reduceCtorEq, aa, V, ad, ag, af, ae, ah, aL, aY, aq, aI, ar, hfl, au, hdvD]; (repeat refine And.intro (by first | omega | assumption | exact rfl | exact ⟨n, 1, ⟨rfl, rfl, by decide⟩, by omega, by omega⟩) ?_); (try refine .inl ?_); apply k0; clear k0; simp only [zP, V])
   refine am ?_
   apply k27; clear k27; refine kp [0, 2, 6, 7, 9, 10, 11, 80, 81, 82, 83, 92] ?_
   refine cd (fun hc28 => ?_) (fun hc28 => ?_)
   ·(try simp only [zB, reduceCtorEq] at hc28)
    have hbrk : 4096 < n + 1 + D.length := by omega
    refine aX ?_
    apply k18; clear k18; refine kp [0, 2, 6, 7, 9, 10, 11, 80, 81, 82, 83, 92] ?_
    refine ai fun _ k29 => ?_
    refine ak hP hN rfl ?_
    iterate 2 (refine aj rfl fun _ k0 => ?_; simp only [zO, zT, acs, reduceCtorEq, aa, V, ad, ag, af, ae, ah, aL, aY, aq, aI, ar]; (repeat refine And.intro (by first | omega | assumption | exact rfl | exact ⟨n, 1, ⟨rfl, rfl, by decide⟩, by omega, by omega⟩) ?_); (try refine .inl ?_); apply k0; clear k0; simp only [zP, V])
    refine am ?_
    apply k29; clear k29; refine kp [0, 2, 6, 7, 9, 10, 11, 80, 81, 82, 83, 92] ?_
    refine d8 3 1 (t := kdT) rfl rfl ?_
    simp only [aF, bl, fr3, zS, aa, and_self, and_true, true_and, and_false, false_and, if_true, if_false, eq_self, reduceCtorEq, Nat.one_ne_zero, Nat.zero_ne_one]
    refine da [6] ?_; simp only [cC, lkp, zE, reduceCtorEq, aa]
    refine cM (n := 3) (L1 := [_, _, _]) rfl rfl (by rw [hB]; simp) rfl (by simp [dT, bI, cz, dr]) ?_
    refine ef (L1 := [_, _]) rfl (by rw [hB]; exact Nat.le_refl _) rfl (by simp [dT, bI, cz, dr]) ?_
    refine aB ?_
    refine ⟨by first | exact .inl rfl | exact .inr rfl, _, rfl, ?_⟩; simp only [zP, aa, V, ah, aL, aY, aq, aI, ar]
    try refine ⟨?_, rfl⟩
    first
    | (rw [eW (by omega)]; all_goals rfl)
    | (rw [eH (by omega) (hW.symm.trans hWn)]; all_goals rfl)
    | (rw [cW (by omega) hW.symm, fC hD hbrk, au, show n + (D.length + 1) = n + 1 + D.length by omega]; all_goals rfl)
    | (rw [hie, aJ] at hD
       rw [cW (by omega) hW.symm, hD, au, show n + (D.length + 1) = n + 1 + D.length by omega]; all_goals rfl)
   (try simp only [zB, reduceCtorEq] at hc28)
   refine ax ?_
   apply k26; clear k26; refine kp [0, 2, 6, 7, 9, 10, 11, 80, 81, 82, 83, 92] ?_
   refine ai fun _ k30 => ?_
   have hgi := rS (m := m) (ini := ini) (cur := cur) (a := a0) (ks := (aC (ouL m cur a0))) (i := i) (by omega)
   have hin : ((aC (ouL m cur a0)).getD i 0) ∈ (aC (ouL m cur a0)) := bm (by omega)
   have hq1 := mS hm (o := ((aC (ouL m cur a0)).getD i 0)) ha0 hs
   have hq2 := jj m ini cur a0 ((aC (ouL m cur a0)).getD i 0) cur.length
   have hq3 := lK hin
   have hq4 : (bB m cur a0 cur.length ((aC (ouL m cur a0)).getD i 0)).length ≤ 1000 := Nat.le_trans jN hl
   have hNle := lM m f (cm m ini cur a0 cur.length ((aC (ouL m cur a0)).getD i 0)) (bB m cur a0 cur.length ((aC (ouL m cur a0)).getD i 0)) w2 (n + 1 + D.length) (by omega)
   have hst9 := mE (n := n) (rec := (fun i c k => cp m f i c w2 k)) (m := m) (ini := ini) (cur := cur) (a := a0) (i := i) (by omega) hD (by omega)
   refine bp hP hN Try.mixed rfl ?_
   iterate 6 (refine aj rfl fun _ k0 => ?_; simp only [zO, zT, acs, reduceCtorEq, aa, V, ad, ag, af, ae, ah, aL, aY, aq, aI, ar, aD, hgi, Int.toNat_one, au, aJ, List.drop_succ_cons, List.drop_zero]; (repeat refine And.intro (by first | omega | assumption | exact rfl | exact ⟨n, 1, ⟨rfl, rfl, by decide⟩, by omega, by omega⟩) ?_); (try refine .inl ?_); apply k0; clear k0; simp only [zP, V, List.append_assoc, aM, ← gF])
   (refine aj rfl fun _ k0 => ?_; simp only [zE, op1, ev, lkp, d5, bQ, cA, zG, Ty.dflt, Ty.size, Nat.mul_one, ne_eq, not_false_eq_true, Int.natCast_one, Int.mul_one, d4, bS, cI, acs, bY, iy, bnd, reduceCtorEq, aa, V, ad, ag, af, ae, Try.el41, Try.el91, Try.st66, Try.td3, Try.td41, Try.td60, Try.td66, Try.td91, ah, aL, aY, aq, aI, ar, aD, hgi, Int.toNat_one, au, aJ, List.drop_succ_cons, List.drop_zero]; (repeat refine And.intro (by first | omega | assumption | exact rfl | exact ⟨n, 1, ⟨rfl, rfl, by decide⟩, by omega, by omega⟩) ?_); (try refine .inl ?_); apply k0; clear k0; simp only [zP, V, List.append_assoc, aM, ← gF])
   refine aj rfl fun _ k0 => ?_
   refine aN (h := ld (k := 1) (u := [(0, .vars 62 [.int .i64 m.inp, .int .i64 m.st, .list (.list (.int .i64)) m.nx, .list (.list (.int .i64)) m.ot, .rwc 1 ((n + 1 + D.length) + (cp m f (cm m ini cur a0 cur.length ((aC (ouL m cur a0)).getD i 0)) (bB m cur a0 cur.length ((aC (ouL m cur a0)).getD i 0)) w2 (n + 1 + D.length)).length)])]) rfl (by simp) (fun fl2 hfl2 => nh (A := [_, _]) (E := [_, _]) (IH (cm m ini cur a0 cur.length ((aC (ouL m cur a0)).getD i 0)) (bB m cur a0 cur.length ((aC (ouL m cur a0)).getD i 0)) w2 (n + 1 + D.length) fl2 (by omega) (by omega) (by rw [hfl2]; simp [aL, aY]; omega) hq1 hq2 hq3 hq4 hw2) (by simp [dT, bI, cz]) rfl rfl (by simp) (by intro k hk; simp at hk ⊢; omega))) rfl rfl (by first | exact rfl | (simp only [ev, zP, aa, V]; exact rfl)) (by simp only [zV, acs, reduceCtorEq, aa, V, ad, ag, af, ae, ah, aL, aY, aq, aI, ar, aD, hgi, Int.toNat_one, au, aJ, List.drop_succ_cons, List.drop_zero]) ?_
   apply k0; clear k0; simp only [zP, V, List.append_assoc, aM, ← gF]
   (refine aj rfl fun _ k0 => ?_; simp only [zO, zT, acs, reduceCtorEq, aa, V, ad, ag, af, ae, ah, aL, aY, aq, aI, ar, aD, hgi, Int.toNat_one, au, aJ, List.drop_succ_cons, List.drop_zero]; (repeat refine And.intro (by first | omega | assumption | exact rfl | exact ⟨n, 1, ⟨rfl, rfl, by decide⟩, by omega, by omega⟩) ?_); (try refine .inl ?_); apply k0; clear k0; simp only [zP, V, List.append_assoc, aM, ← gF])
   refine am ?_
   refine ⟨by kernel_rfl, ?_⟩
   apply k30; clear k30; refine kp [0, 2, 6, 7, 9, 10, 11, 12, 80, 81, 82, 83, 92] ?_
   refine bp hP hN Try.mixed rfl ?_
   iterate 21 (refine aj rfl fun _ k0 => ?_; simp only [zE, op1, ev, lkp, d5, bQ, iu, bM, d4, Nat.mul_one, bS, cI, acs, Ty.dflt, zG, bY, cA, Ty.size, ne_eq, not_false_eq_true, Int.natCast_one, Int.mul_one, iB, cb, cf, dv, dm, rep, br, cr, fo, ew, cK, d7, eE, Nat.div_one, cR, df, dite_true, eh, reduceCtorEq, aa, V, ad, ag, af, ae, Try.el27, Try.el50, Try.fl58, Try.st52, Try.st58, Try.st62, Try.td1, Try.td2, Try.td27, Try.td3, Try.td50, Try.td52, Try.td58, Try.td60, Try.td62, ah, aL, aY, aq, aI, ar, za hxl, hfl]; (repeat refine And.intro (by first | omega | assumption | exact rfl | exact ⟨n, 1, ⟨rfl, rfl, by decide⟩, by omega, by omega⟩) ?_); (try refine .inl ?_); apply k0; clear k0; simp only [zP, V, ye hxl])
   refine am ?_
   refine ⟨by kernel_rfl, ?_⟩
   apply k24; clear k24; refine kp [0, 2, 6, 7, 9, 10, 11, 12, 80, 81, 82, 83, 92] ?_
   refine ak hP hN rfl ?_
   iterate 2 (refine aj rfl fun _ k0 => ?_; simp only [zO, zT, acs, reduceCtorEq, aa, V, ad, ag, af, ae, ah, aL, aY, aq, aI, ar]; (repeat refine And.intro (by first | omega | assumption | exact rfl | exact ⟨n, 1, ⟨rfl, rfl, by decide⟩, by omega, by omega⟩) ?_); (try refine .inl ?_); apply k0; clear k0; simp only [zP, V])
   refine am ?_
   refine ⟨_, _, ?_, aw [0, 2, 6, 7, 9, 80, 81, 82], i + 1, D ++ (cp m f (cm m ini cur a0 cur.length ((aC (ouL m cur a0)).getD i 0)) (bB m cur a0 cur.length ((aC (ouL m cur a0)).getD i 0)) w2 (n + 1 + D.length)), K ++ [(((aC (ouL m cur a0)).getD i 0), ((n + 1 + D.length : Nat) : Int), ())], by omega, hst9, by rw [aq]; omega, by rw [aq]; simp only [au, aE]; omega, rfl, ?_⟩
   · omega
   · simp only [aq, ← Nat.add_assoc]; rfl
  (try simp only [zB, reduceCtorEq] at hc23)
  have hie : i = (aC (ouL m cur a0)).length := by omega
  refine aX ?_
  apply k18; clear k18; refine kp [0, 2, 6, 7, 9, 80, 81, 82, 83] ?_
  refine ai fun _ k31 => ?_
  refine ak hP hN rfl ?_
  iterate 2 (refine aj rfl fun _ k0 => ?_; simp only [zO, zT, acs, reduceCtorEq, aa, V, ad, ag, af, ae, ah, aL, aY, aq, aI, ar]; (repeat refine And.intro (by first | omega | assumption | exact rfl | exact ⟨n, 1, ⟨rfl, rfl, by decide⟩, by omega, by omega⟩) ?_); (try refine .inl ?_); apply k0; clear k0; simp only [zP, V])
  refine am ?_
  apply k31; clear k31; refine kp [0, 2, 6, 7, 9, 80, 81, 82, 83] ?_
  refine d8 3 1 (t := kdT) rfl rfl ?_
  simp only [aF, bl, fr3, zS, aa, and_self, and_true, true_and, and_false, false_and, if_true, if_false, eq_self, reduceCtorEq, Nat.one_ne_zero, Nat.zero_ne_one]
  refine da [6] ?_; simp only [cC, lkp, zE, reduceCtorEq, aa]
  refine cM (n := 3) (L1 := [_, _, _]) rfl rfl (by rw [hB]; simp) rfl (by simp [dT, bI, cz, dr]) ?_
  refine ef (L1 := [_, _]) rfl (by rw [hB]; exact Nat.le_refl _) rfl (by simp [dT, bI, cz, dr]) ?_
  refine aB ?_
  refine ⟨by first | exact .inl rfl | exact .inr rfl, _, rfl, ?_⟩; simp only [zP, aa, V, ah, aL, aY, aq, aI, ar]
  try refine ⟨?_, rfl⟩
  first
  | (rw [eW (by omega)]; all_goals rfl)
  | (rw [eH (by omega) (hW.symm.trans hWn)]; all_goals rfl)
  | (rw [cW (by omega) hW.symm, fC hD hbrk, au, show n + (D.length + 1) = n + 1 + D.length by omega]; all_goals rfl)
  | (rw [hie, aJ] at hD
     rw [cW (by omega) hW.symm, hD, au, show n + (D.length + 1) = n + 1 + D.length by omega]; all_goals rfl)
 (try simp only [zB, reduceCtorEq] at hc11)
 refine ax ?_
 apply k8; clear k8; refine kp [0, 1, 2, 4, 6, 7, 36, 46] ?_
 refine ai fun _ k32 => ?_
 refine ai fun _ k33 => ?_
 obtain ⟨W, hW⟩ : ∃ W, W = gE m ini cur w := ⟨_, rfl⟩
 have hWs : dx m W := by rw [hW]; exact vY hw
 refine sK 2 (v' := .one (.list (.int .i64) W)) rfl (VLE.of_eq (by first | (show AV.one (.list (.int .i64) ((fdW m cur).getD [])) = _; rw [hW]; unfold gE; rw [if_pos (by omega)]; done) | (show AV.one (.list (.int .i64) w) = _; rw [hW]; unfold gE; rw [if_neg (by omega)]; done))) ?_
 refine ak hP hN rfl ?_
 iterate 3 (refine aj rfl fun _ k0 => ?_; simp only [zO, zT, acs, reduceCtorEq, aa, V, ad, ag, af, ae, ah, aL, aY, aq, aI, ar]; (repeat refine And.intro (by first | omega | assumption | exact rfl | exact ⟨n, 1, ⟨rfl, rfl, by decide⟩, by omega, by omega⟩) ?_); (try refine .inl ?_); apply k0; clear k0; simp only [zP, V])
 refine am ?_
 apply k33; clear k33; refine kp [0, 1, 2, 4, 6, 7, 36, 46, 59] ?_
 refine cd (fun hc34 => ?_) (fun hc34 => ?_)
 ·(try simp only [zB, reduceCtorEq] at hc34)
  have hWn : W = [] := List.eq_nil_of_length_eq_zero (by omega)
  refine ai fun _ k35 => ?_
  refine ak hP hN rfl ?_
  iterate 2 (refine aj rfl fun _ k0 => ?_; simp only [zO, zT, acs, reduceCtorEq, aa, V, ad, ag, af, ae, ah, aL, aY, aq, aI, ar]; (repeat refine And.intro (by first | omega | assumption | exact rfl | exact ⟨n, 1, ⟨rfl, rfl, by decide⟩, by omega, by omega⟩) ?_); (try refine .inl ?_); apply k0; clear k0; simp only [zP, V])
  refine am ?_
  apply k35; clear k35; refine kp [0, 1, 2, 4, 6, 7, 36, 46, 59] ?_
  refine d8 3 1 (t := kdT) rfl rfl ?_
  simp only [aF, bl, fr3, zS, aa, and_self, and_true, true_and, and_false, false_and, if_true, if_false, eq_self, reduceCtorEq, Nat.one_ne_zero, Nat.zero_ne_one]
  refine da [6] ?_; simp only [cC, lkp, zE, reduceCtorEq, aa]
  refine cM (n := 3) (L1 := [_, _, _]) rfl rfl (by rw [hB]; simp) rfl (by simp [dT, bI, cz, dr]) ?_
  refine ef (L1 := [_, _]) rfl (by rw [hB]; exact Nat.le_refl _) rfl (by simp [dT, bI, cz, dr]) ?_
  refine aB ?_
  refine ⟨by first | exact .inl rfl | exact .inr rfl, _, rfl, ?_⟩; simp only [zP, aa, V, ah, aL, aY, aq, aI, ar]
  try refine ⟨?_, rfl⟩
  first
  | (rw [eW (by omega)]; all_goals rfl)
  | (rw [eH (by omega) (hW.symm.trans hWn)]; all_goals rfl)
  | (rw [cW (by omega) hW.symm, fC hD hbrk, au, show n + (D.length + 1) = n + 1 + D.length by omega]; all_goals rfl)
  | (rw [hie, aJ] at hD
     rw [cW (by omega) hW.symm, hD, au, show n + (D.length + 1) = n + 1 + D.length by omega]; all_goals rfl)
 (try simp only [zB, reduceCtorEq] at hc34)
 obtain ⟨a0, w2, hWc⟩ : ∃ a0 w2, W = a0 :: w2 := by
   cases W with
   | nil => simp at hc34
   | cons a0 w2 => exact ⟨_, _, rfl⟩
 subst hWc
 refine ax ?_
 apply k32; clear k32; refine kp [0, 1, 2, 4, 6, 7, 36, 46, 59] ?_
 refine ai fun _ k36 => ?_
 have ha0 : 0 ≤ a0 ∧ a0 < m.inp := hWs a0 (aH ..)
 have hw2 : dx m w2 := fun x hx => hWs x (aG _ hx)
 refine bp hP hN Try.mixed rfl ?_
 iterate 11 (refine aj rfl fun _ k0 => ?_; simp only [zE, op1, ev, lkp, d5, bQ, iu, bM, d4, Nat.mul_one, bS, cI, acs, Ty.dflt, zG, bY, cA, Ty.size, ne_eq, not_false_eq_true, Int.natCast_one, Int.mul_one, eh, cf, br, reduceCtorEq, aa, V, ad, ag, af, ae, Try.el27, Try.el41, Try.st52, Try.st62, Try.td1, Try.td27, Try.td3, Try.td41, Try.td52, Try.td60, Try.td62, ah, aL, aY, aq, aI, ar, hfl]; (repeat refine And.intro (by first | omega | assumption | exact rfl | exact ⟨n, 1, ⟨rfl, rfl, by decide⟩, by omega, by omega⟩) ?_); (try refine .inl ?_); apply k0; clear k0; simp only [zP, V, zb hxl])
 refine am ?_
 refine ⟨by kernel_rfl, ?_⟩
 apply k36; clear k36; refine kp [0, 1, 2, 4, 6, 7, 36, 46, 59] ?_
 refine ai fun _ k37 => ?_
 refine bp hP hN Try.mixed rfl ?_
 iterate 5 (refine aj rfl fun _ k0 => ?_; simp only [zO, zT, acs, reduceCtorEq, aa, V, ad, ag, af, ae, ah, aL, aY, aq, aI, ar]; (repeat refine And.intro (by first | omega | assumption | exact rfl | exact ⟨n, 1, ⟨rfl, rfl, by decide⟩, by omega, by omega⟩) ?_); (try refine .inl ?_); apply k0; clear k0; simp only [zP, V])
 refine aj rfl fun _ k0 => ?_
 refine aN (h := jl (k := 0) (T := 62) (cs := [.int .i64 m.inp, .int .i64 m.st, .list (.list (.int .i64)) m.nx, .list (.list (.int .i64)) m.ot]) (c := .rwc 1 (n + 1)) rfl (by simp) (fun x => pC m x ini cur a0 hm hs ha0 h0 hl hil _ 0 rfl)) rfl rfl (by first | exact rfl | (simp only [ev, zP, aa, V]; exact rfl)) (by simp only [zV, acs, reduceCtorEq, aa, V, ad, ag, af, ae, ah, aL, aY, aq, aI, ar]) ?_
 apply k0; clear k0; simp only [zP, V]
 iterate 5 (refine aj rfl fun _ k0 => ?_; simp only [zO, zT, acs, reduceCtorEq, aa, V, ad, ag, af, ae, ah, aL, aY, aq, aI, ar]; (repeat refine And.intro (by first | omega | assumption | exact rfl | exact ⟨n, 1, ⟨rfl, rfl, by decide⟩, by omega, by omega⟩) ?_); (try refine .inl ?_); apply k0; clear k0; simp only [zP, V])
 refine am ?_
 refine ⟨by kernel_rfl, ?_⟩
 apply k37; clear k37; refine kp [0, 1, 2, 4, 6, 7, 8, 9, 36, 46, 59] ?_
 refine ai fun _ k38 => ?_
 refine ai fun _ k39 => ?_
 have hkl := iH (ouL m cur a0)
 have hol : (ouL m cur a0).length = cur.length := az ..
 refine ak hP hN rfl ?_
 iterate 3 (refine aj rfl fun _ k0 => ?_; simp only [zO, zT, acs, reduceCtorEq, aa, V, ad, ag, af, ae, ah, aL, aY, aq, aI, ar]; (repeat refine And.intro (by first | omega | assumption | exact rfl | exact ⟨n, 1, ⟨rfl, rfl, by decide⟩, by omega, by omega⟩) ?_); (try refine .inl ?_); apply k0; clear k0; simp only [zP, V])
 refine am ?_
 apply k39; clear k39; refine kp [0, 1, 2, 4, 6, 7, 8, 9, 36, 46, 59, 80, 81, 82] ?_
 refine ay ?_
 refine bb (fun n40 s40 => ∃ (i : Nat) (D : List bc) (K : List dR), (i ≤ (aC (ouL m cur a0)).length) ∧ (((aC (ouL m cur a0)).take i).foldl (dZ n (fun i c k => cp m f i c w2 k) m ini cur a0) ([], []) = (D, K)) ∧ (n + 1 + D.length ≤ 4097) ∧ (K.length ≤ i) ∧ n40 = (aC (ouL m cur a0)).length - i ∧ s40 = { env := [(0, .one (.ptr 0 0 0 0)), (2, .one (.list (.int .i64) (a0 :: w2))), (6, .one (.int .i64 0)), (7, .one (.int .i64 (n : Int))), (9, .one (.list (.pair (.list (.int .i64)) (.pair (.list (.int .i64)) .unit)) (lX m ini cur a0 (aC (ouL m cur a0))))), (80, .one (.list (.int .i64) (aC (ouL m cur a0)))), (81, .one (.int .i64 ((aC (ouL m cur a0)).length : Int))), (82, .one (.int .i64 (i : Int)))], L := [.vars 62 [.int .i64 m.inp, .int .i64 m.st, .list (.list (.int .i64)) m.nx, .list (.list (.int .i64)) m.ot, .rwc 1 (n + 1 + D.length)], .rowc 52 3 (n + 1 + D.length) (eg fl ++ .list (.int .i64) ini :: .int .i64 a0 :: .row 3 K.length :: ndC D), .vars 66 [.list (.int .i64) ini, .list (.int .i64) cur], .row kdT 58 K.length K] }) ?_ ?_
 ·exact ⟨_, _, aw [0, 2, 6, 7, 9, 80, 81, 82], 0, [], [], Nat.zero_le _, rfl, by simp only [aE]; omega, Nat.zero_le _, rfl, rfl⟩
 rintro n40 s40 ⟨i, D, K, hi, hD, hDl, hKl, rfl, rfl⟩
 refine ai fun _ k41 => ?_
 refine ak hP hN rfl ?_
 (refine aj rfl fun _ k0 => ?_; simp only [zO, zT, acs, reduceCtorEq, aa, V, ad, ag, af, ae, ah, aL, aY, aq, aI, ar]; (repeat refine And.intro (by first | omega | assumption | exact rfl | exact ⟨n, 1, ⟨rfl, rfl, by decide⟩, by omega, by omega⟩) ?_); (try refine .inl ?_); apply k0; clear k0; simp only [zP, V])
 refine am ?_
 apply k41; clear k41; refine kp [0, 2, 6, 7, 9, 80, 81, 82, 83] ?_
 refine ai fun _ k42 => ?_
 refine cd (fun hc43 => ?_) (fun hc43 => ?_)
 ·(try simp only [zB, reduceCtorEq] at hc43)
  refine ax ?_
  apply k42; clear k42; refine kp [0, 2, 6, 7, 9, 80, 81, 82, 83] ?_
  refine ai fun _ k44 => ?_
  refine ay ?_
  refine ai fun _ k45 => ?_
  refine ak hP hN rfl ?_
  iterate 5 (refine aj rfl fun _ k0 => ?_; simp only [zO, zT, acs, reduceCtorEq, aa, V, ad, ag, af, ae, ah, aL, aY, aq, aI, ar]; (repeat refine And.intro (by first | omega | assumption | exact rfl | exact ⟨n, 1, ⟨rfl, rfl, by decide⟩, by omega, by omega⟩) ?_); (try refine .inl ?_); apply k0; clear k0; simp only [zP, V])
  refine am ?_
  apply k45; clear k45; refine kp [0, 2, 6, 7, 9, 10, 11, 80, 81, 82, 83] ?_
  refine ai fun _ k46 => ?_
  refine ai fun _ k47 => ?_
  have hdvD : (n * 3 + (D.length * 3 + 1 + 1 + 1)) / 3 = n + 1 + D.length := by omega
  refine ak hP hN rfl ?_
  iterate 6 (refine aj rfl fun _ k0 => ?_; simp only [zO, zT, acs, reduceCtorEq, aa, V, ad, ag, af, ae, ah, aL, aY, aq, aI, ar, hfl, au, hdvD]; (repeat refine And.intro (by first | omega | assumption | exact rfl | exact ⟨n, 1, ⟨rfl, rfl, by decide⟩, by omega, by omega⟩) ?_); (try refine .inl ?_); apply k0; clear k0; simp only [zP, V])
  refine am ?_
  apply k47; clear k47; refine kp [0, 2, 6, 7, 9, 10, 11, 80, 81, 82, 83, 92] ?_
  refine cd (fun hc48 => ?_) (fun hc48 => ?_)
  ·(try simp only [zB, reduceCtorEq] at hc48)
   have hbrk : 4096 < n + 1 + D.length := by omega
   refine aX ?_
   apply k38; clear k38; refine kp [0, 2, 6, 7, 9, 10, 11, 80, 81, 82, 83, 92] ?_
   refine ai fun _ k49 => ?_
   refine ak hP hN rfl ?_
   iterate 2 (refine aj rfl fun _ k0 => ?_; simp only [zO, zT, acs, reduceCtorEq, aa, V, ad, ag, af, ae, ah, aL, aY, aq, aI, ar]; (repeat refine And.intro (by first | omega | assumption | exact rfl | exact ⟨n, 1, ⟨rfl, rfl, by decide⟩, by omega, by omega⟩) ?_); (try refine .inl ?_); apply k0; clear k0; simp only [zP, V])
   refine am ?_
   apply k49; clear k49; refine kp [0, 2, 6, 7, 9, 10, 11, 80, 81, 82, 83, 92] ?_
   refine d8 3 1 (t := kdT) rfl rfl ?_
   simp only [aF, bl, fr3, zS, aa, and_self, and_true, true_and, and_false, false_and, if_true, if_false, eq_self, reduceCtorEq, Nat.one_ne_zero, Nat.zero_ne_one]
   refine da [6] ?_; simp only [cC, lkp, zE, reduceCtorEq, aa]
   refine cM (n := 3) (L1 := [_, _, _]) rfl rfl (by rw [hB]; simp) rfl (by simp [dT, bI, cz, dr]) ?_
   refine ef (L1 := [_, _]) rfl (by rw [hB]; exact Nat.le_refl _) rfl (by simp [dT, bI, cz, dr]) ?_
   refine aB ?_
   refine ⟨by first | exact .inl rfl | exact .inr rfl, _, rfl, ?_⟩; simp only [zP, aa, V, ah, aL, aY, aq, aI, ar]
   try refine ⟨?_, rfl⟩
   first
   | (rw [eW (by omega)]; all_goals rfl)
   | (rw [eH (by omega) (hW.symm.trans hWn)]; all_goals rfl)
   | (rw [cW (by omega) hW.symm, fC hD hbrk, au, show n + (D.length + 1) = n + 1 + D.length by omega]; all_goals rfl)
   | (rw [hie, aJ] at hD
      rw [cW (by omega) hW.symm, hD, au, show n + (D.length + 1) = n + 1 + D.length by omega]; all_goals rfl)
  (try simp only [zB, reduceCtorEq] at hc48)
  refine ax ?_
  apply k46; clear k46; refine kp [0, 2, 6, 7, 9, 10, 11, 80, 81, 82, 83, 92] ?_
  refine ai fun _ k50 => ?_
  have hgi := rS (m := m) (ini := ini) (cur := cur) (a := a0) (ks := (aC (ouL m cur a0))) (i := i) (by omega)
  have hin : ((aC (ouL m cur a0)).getD i 0) ∈ (aC (ouL m cur a0)) := bm (by omega)
  have hq1 := mS hm (o := ((aC (ouL m cur a0)).getD i 0)) ha0 hs
  have hq2 := jj m ini cur a0 ((aC (ouL m cur a0)).getD i 0) cur.length
  have hq3 := lK hin
  have hq4 : (bB m cur a0 cur.length ((aC (ouL m cur a0)).getD i 0)).length ≤ 1000 := Nat.le_trans jN hl
  have hNle := lM m f (cm m ini cur a0 cur.length ((aC (ouL m cur a0)).getD i 0)) (bB m cur a0 cur.length ((aC (ouL m cur a0)).getD i 0)) w2 (n + 1 + D.length) (by omega)
  have hst9 := mE (n := n) (rec := (fun i c k => cp m f i c w2 k)) (m := m) (ini := ini) (cur := cur) (a := a0) (i := i) (by omega) hD (by omega)
  refine bp hP hN Try.mixed rfl ?_
  iterate 6 (refine aj rfl fun _ k0 => ?_; simp only [zO, zT, acs, reduceCtorEq, aa, V, ad, ag, af, ae, ah, aL, aY, aq, aI, ar, aD, hgi, Int.toNat_one, au, aJ, List.drop_succ_cons, List.drop_zero]; (repeat refine And.intro (by first | omega | assumption | exact rfl | exact ⟨n, 1, ⟨rfl, rfl, by decide⟩, by omega, by omega⟩) ?_); (try refine .inl ?_); apply k0; clear k0; simp only [zP, V, List.append_assoc, aM, ← gF])
  (refine aj rfl fun _ k0 => ?_; simp only [zE, op1, ev, lkp, d5, bQ, cA, zG, Ty.dflt, Ty.size, Nat.mul_one, ne_eq, not_false_eq_true, Int.natCast_one, Int.mul_one, d4, bS, cI, acs, bY, iy, bnd, reduceCtorEq, aa, V, ad, ag, af, ae, Try.el41, Try.el91, Try.st66, Try.td3, Try.td41, Try.td60, Try.td66, Try.td91, ah, aL, aY, aq, aI, ar, aD, hgi, Int.toNat_one, au, aJ, List.drop_succ_cons, List.drop_zero]; (repeat refine And.intro (by first | omega | assumption | exact rfl | exact ⟨n, 1, ⟨rfl, rfl, by decide⟩, by omega, by omega⟩) ?_); (try refine .inl ?_); apply k0; clear k0; simp only [zP, V, List.append_assoc, aM, ← gF])
  refine aj rfl fun _ k0 => ?_
  refine aN (h := ld (k := 1) (u := [(0, .vars 62 [.int .i64 m.inp, .int .i64 m.st, .list (.list (.int .i64)) m.nx, .list (.list (.int .i64)) m.ot, .rwc 1 ((n + 1 + D.length) + (cp m f (cm m ini cur a0 cur.length ((aC (ouL m cur a0)).getD i 0)) (bB m cur a0 cur.length ((aC (ouL m cur a0)).getD i 0)) w2 (n + 1 + D.length)).length)])]) rfl (by simp) (fun fl2 hfl2 => nh (A := [_, _]) (E := [_, _]) (IH (cm m ini cur a0 cur.length ((aC (ouL m cur a0)).getD i 0)) (bB m cur a0 cur.length ((aC (ouL m cur a0)).getD i 0)) w2 (n + 1 + D.length) fl2 (by omega) (by omega) (by rw [hfl2]; simp [aL, aY]; omega) hq1 hq2 hq3 hq4 hw2) (by simp [dT, bI, cz]) rfl rfl (by simp) (by intro k hk; simp at hk ⊢; omega))) rfl rfl (by first | exact rfl | (simp only [ev, zP, aa, V]; exact rfl)) (by simp only [zV, acs, reduceCtorEq, aa, V, ad, ag, af, ae, ah, aL, aY, aq, aI, ar, aD, hgi, Int.toNat_one, au, aJ, List.drop_succ_cons, List.drop_zero]) ?_
  apply k0; clear k0; simp only [zP, V, List.append_assoc, aM, ← gF]
  (refine aj rfl fun _ k0 => ?_; simp only [zO, zT, acs, reduceCtorEq, aa, V, ad, ag, af, ae, ah, aL, aY, aq, aI, ar, aD, hgi, Int.toNat_one, au, aJ, List.drop_succ_cons, List.drop_zero]; (repeat refine And.intro (by first | omega | assumption | exact rfl | exact ⟨n, 1, ⟨rfl, rfl, by decide⟩, by omega, by omega⟩) ?_); (try refine .inl ?_); apply k0; clear k0; simp only [zP, V, List.append_assoc, aM, ← gF])
  refine am ?_
  refine ⟨by kernel_rfl, ?_⟩
  apply k50; clear k50; refine kp [0, 2, 6, 7, 9, 10, 11, 12, 80, 81, 82, 83, 92] ?_
  refine bp hP hN Try.mixed rfl ?_
  iterate 21 (refine aj rfl fun _ k0 => ?_; simp only [zE, op1, ev, lkp, d5, bQ, iu, bM, d4, Nat.mul_one, bS, cI, acs, Ty.dflt, zG, bY, cA, Ty.size, ne_eq, not_false_eq_true, Int.natCast_one, Int.mul_one, iB, cb, cf, dv, dm, rep, br, cr, fo, ew, cK, d7, eE, Nat.div_one, cR, df, dite_true, eh, reduceCtorEq, aa, V, ad, ag, af, ae, Try.el27, Try.el50, Try.fl58, Try.st52, Try.st58, Try.st62, Try.td1, Try.td2, Try.td27, Try.td3, Try.td50, Try.td52, Try.td58, Try.td60, Try.td62, ah, aL, aY, aq, aI, ar, za hxl, hfl]; (repeat refine And.intro (by first | omega | assumption | exact rfl | exact ⟨n, 1, ⟨rfl, rfl, by decide⟩, by omega, by omega⟩) ?_); (try refine .inl ?_); apply k0; clear k0; simp only [zP, V, ye hxl])
  refine am ?_
  refine ⟨by kernel_rfl, ?_⟩
  apply k44; clear k44; refine kp [0, 2, 6, 7, 9, 10, 11, 12, 80, 81, 82, 83, 92] ?_
  refine ak hP hN rfl ?_
  iterate 2 (refine aj rfl fun _ k0 => ?_; simp only [zO, zT, acs, reduceCtorEq, aa, V, ad, ag, af, ae, ah, aL, aY, aq, aI, ar]; (repeat refine And.intro (by first | omega | assumption | exact rfl | exact ⟨n, 1, ⟨rfl, rfl, by decide⟩, by omega, by omega⟩) ?_); (try refine .inl ?_); apply k0; clear k0; simp only [zP, V])
  refine am ?_
  refine ⟨_, _, ?_, aw [0, 2, 6, 7, 9, 80, 81, 82], i + 1, D ++ (cp m f (cm m ini cur a0 cur.length ((aC (ouL m cur a0)).getD i 0)) (bB m cur a0 cur.length ((aC (ouL m cur a0)).getD i 0)) w2 (n + 1 + D.length)), K ++ [(((aC (ouL m cur a0)).getD i 0), ((n + 1 + D.length : Nat) : Int), ())], by omega, hst9, by rw [aq]; omega, by rw [aq]; simp only [au, aE]; omega, rfl, ?_⟩
  · omega
  · simp only [aq, ← Nat.add_assoc]; rfl
 (try simp only [zB, reduceCtorEq] at hc43)
 have hie : i = (aC (ouL m cur a0)).length := by omega
 refine aX ?_
 apply k38; clear k38; refine kp [0, 2, 6, 7, 9, 80, 81, 82, 83] ?_
 refine ai fun _ k51 => ?_
 refine ak hP hN rfl ?_
 iterate 2 (refine aj rfl fun _ k0 => ?_; simp only [zO, zT, acs, reduceCtorEq, aa, V, ad, ag, af, ae, ah, aL, aY, aq, aI, ar]; (repeat refine And.intro (by first | omega | assumption | exact rfl | exact ⟨n, 1, ⟨rfl, rfl, by decide⟩, by omega, by omega⟩) ?_); (try refine .inl ?_); apply k0; clear k0; simp only [zP, V])
 refine am ?_
 apply k51; clear k51; refine kp [0, 2, 6, 7, 9, 80, 81, 82, 83] ?_
 refine d8 3 1 (t := kdT) rfl rfl ?_
 simp only [aF, bl, fr3, zS, aa, and_self, and_true, true_and, and_false, false_and, if_true, if_false, eq_self, reduceCtorEq, Nat.one_ne_zero, Nat.zero_ne_one]
 refine da [6] ?_; simp only [cC, lkp, zE, reduceCtorEq, aa]
 refine cM (n := 3) (L1 := [_, _, _]) rfl rfl (by rw [hB]; simp) rfl (by simp [dT, bI, cz, dr]) ?_
 refine ef (L1 := [_, _]) rfl (by rw [hB]; exact Nat.le_refl _) rfl (by simp [dT, bI, cz, dr]) ?_
 refine aB ?_
 refine ⟨by first | exact .inl rfl | exact .inr rfl, _, rfl, ?_⟩; simp only [zP, aa, V, ah, aL, aY, aq, aI, ar]
 try refine ⟨?_, rfl⟩
 first
 | (rw [eW (by omega)]; all_goals rfl)
 | (rw [eH (by omega) (hW.symm.trans hWn)]; all_goals rfl)
 | (rw [cW (by omega) hW.symm, fC hD hbrk, au, show n + (D.length + 1) = n + 1 + D.length by omega]; all_goals rfl)
 | (rw [hie, aJ] at hD
    rw [cW (by omega) hW.symm, hD, au, show n + (D.length + 1) = n + 1 + D.length by omega]; all_goals rfl)
theorem uD (m : Mly) (hm : MOK m) : ∀ (f : Nat) (ini cur w : List Int) (n : Nat) (fl : List Value), 4098 ≤ f + n → n ≤ 4096 → fl.length = n * 3 → cU m cur → ini.length = cur.length → 0 < cur.length → cur.length ≤ 1000 → dx m w → er Try.prog [.vars 62 [.int .i64 m.inp, .int .i64 m.st, .list (.list (.int .i64)) m.nx, .list (.list (.int .i64)) m.ot, .rwc 1 n], .rowc 52 3 n (eg fl)] 33 [.one (.ptr 0 0 0 0), .agg [.list (.int .i64) ini, .list (.int .i64) cur], .one (.list (.int .i64) w)] { av := .one (.int .i64 (n : Int)), upd := [(0, .vars 62 [.int .i64 m.inp, .int .i64 m.st, .list (.list (.int .i64)) m.nx, .list (.list (.int .i64)) m.ot, .rwc 1 (n + (cp m f ini cur w n).length)]), (1, .rowc 52 3 (n + (cp m f ini cur w n).length) (eg fl ++ ndC (cp m f ini cur w n)))], fp := [0, 1] }
  | 0, ini, cur, w, n, fl, hf, hn, _, _, _, _, _, _ => by omega
  | f + 1, ini, cur, w, n, fl, hf, hn, hfl, hs, hil, h0, hl, hw => y3 f m hm (uD m hm f) ini cur w n fl hf hn hfl hs hil h0 hl hw
theorem oy {C : Ctx} {L : List AO} {σ : Sig} {w : World} {k j sz : Nat} {e T : TypeId} {cs : List AC} (h : INV C L σ w) (ht : 0 < sz) (hk : L[k]? = some (.vars T cs)) (hj : cs[j]? = some .nils) :
    ∃ σ', INV C ((L ++ [AO.rowc e sz 0 []]).set k (AO.vars T (cs.set j (.rwc L.length 0)))) σ' w ∧ dz C L σ w ((L ++ [AO.rowc e sz 0 []]).set k (AO.vars T (cs.set j (.rwc L.length 0)))) σ' w := by
  have hlt : k < L.length := (List.getElem?_eq_some_iff.1 hk).1
  obtain ⟨σ1, d1, d2, d3⟩ := dJ (C := C) (L := L) (σ := σ) (w := w) (w' := w) (v := .one (.rwc L.length 0)) (fp := []) (u := .slice none 0 0) (g := .slice none 0 0) (ob := .rowc e sz 0 []) h (Nat.le_refl _) rfl rfl rfl (fun _ _ => rfl) (fun b hb => by cases hb)
    (fun _ => ⟨[], 0, ⟨(Nat.zero_mul sz).symm, .inl ⟨by rw [aV], rfl⟩⟩, ht, (Nat.zero_mul sz).symm, trivial⟩) ⟨rfl, .rowc e sz 0 [], by simp, Nat.le_refl _, fun _ _ => ⟨⟨_, _, _, rfl⟩, by rw [aV]⟩⟩
  have e1 : app L { av := .one (.rwc L.length 0), new := [AO.rowc e sz 0 []], fp := [] } = L ++ [AO.rowc e sz 0 []] := rfl
  rw [e1] at d1 d2 d3
  have hk1 : (L ++ [AO.rowc e sz 0 []])[k]? = some (.vars T cs) := by rw [List.getElem?_append_left hlt]; exact hk
  obtain ⟨b, vs, q1, q2, q3⟩ := d1.ob k _ hk1
  have hlast : (L ++ [AO.rowc e sz 0 []])[L.length]? = some (.rowc e sz 0 []) := by simp
  have hnil : .slice none 0 0 = σ1 L.length := by
    obtain ⟨_, ob, p2, _, p4⟩ := d2
    rw [hlast] at p2; cases p2
    exact (p4 rfl rfl).2
  obtain ⟨b0, vs0, r1, r2, r3⟩ := h.ob k _ hk
  obtain ⟨u, hu0, hcu0⟩ := r3.at_ hj
  obtain ⟨u, hu, hcu⟩ : ∃ u, vs[j]? = some u ∧ RC C (L ++ [AO.rowc e sz 0 []]) σ1 w .nils u := q3.at_ hj
  have hvs : vs.set j u = vs := by
    apply List.ext_getElem?
    intro i
    rw [List.getElem?_set]
    split
    · rename_i e; subst e; split
      · exact hu.symm
      · rename_i hh; exact absurd (List.getElem?_eq_some_iff.1 hu).1 hh
    · rfl
  obtain ⟨j1, j2⟩ := ji d1 hk1 q1 q2 (cs' := cs.set j (.rwc L.length 0)) (by
    rw [← hvs]
    exact q3.set j ⟨hcu.1, _, hlast, Nat.le_refl _, fun _ _ => ⟨⟨_, _, _, rfl⟩, hcu.2.trans hnil⟩⟩)
  exact ⟨σ1, j1, d3.trans j2⟩
theorem z6 (m : Mly) (hm : MOK m) (all : List Int) (hs : cU m all) (h0 : 0 < all.length) (hl : all.length ≤ 1000) (L0 : List AO) (m0 : Nat) (hm0 : L0[m0]? = some (.vars 62 [.int .i64 m.inp, .int .i64 m.st, .list (.list (.int .i64)) m.nx, .list (.list (.int .i64)) m.ot, .nils])) :
    er Try.prog L0 33 (List.map (mv1 m0) [.one (.ptr 0 0 0 0), .agg [.list (.int .i64) all, .list (.int .i64) all], .one .nils]) { av := .one (.int .i64 0), upd := [(m0, .vars 62 [.int .i64 m.inp, .int .i64 m.st, .list (.list (.int .i64)) m.nx, .list (.list (.int .i64)) m.ot, .list ndT (cp m 4098 all all [] 0)])], fp := [m0] } := by
  have hc := uD m hm 4098 all all [] 0 [] (by omega) (by omega) rfl hs rfl h0 hl (fun x hx => by cases hx)
  refine qg (cs := [.int .i64 m.inp, .int .i64 m.st, .list (.list (.int .i64)) m.nx, .list (.list (.int .i64)) m.ot, .nils]) (cs' := [.int .i64 m.inp, .int .i64 m.st, .list (.list (.int .i64)) m.nx, .list (.list (.int .i64)) m.ot, .list ndT (cp m 4098 all all [] 0)]) hc.1 rfl rfl (fun C σ w vs hP hI ha => ?_) L0 m0 hm0
  match vs, ha with
  | [v0, v1, v2], ⟨a0, a1, a2, _⟩ =>
  obtain ⟨σ1, d1, d3⟩ := oy (k := 0) (j := 4) (sz := 3) (e := 52) hI (by decide) rfl rfl
  refine (hc.2 C _ σ1 w [v0, v1, v2] hP d1 ⟨d3.rv a0, d3.rv a1, m3 (bz rfl) _ _ _ _ _ (d3.rv a2), trivial⟩ (fun _ _ => rfl) rfl).mono fun e w' ⟨v, he, σ', g1, g2, g3⟩ => ?_
  have hlen : (eg [] ++ ndC (cp m 4098 all all [] 0)).length = (cp m 4098 all all [] 0).length * ndT.size := aY _
  obtain ⟨i1, i2⟩ := kH (k := 1) (t := ndT) (n := (cp m 4098 all all [] 0).length) (e := 52) (v := 0 + (cp m 4098 all all [] 0).length) (cs := eg [] ++ ndC (cp m 4098 all all [] 0)) g1 rfl (kY ndT _) hlen
  obtain ⟨b, us, r1, r2, r3⟩ := g1.ob 0 _ rfl
  match us, r3 with
  | [u0, u1, u2, u3, u4], ⟨c0, c1, c2, c3, c4, _⟩ =>
  have hnew : RC C [.vars 62 [.int .i64 m.inp, .int .i64 m.st, .list (.list (.int .i64)) m.nx, .list (.list (.int .i64)) m.ot, .rwc 1 (0 + (cp m 4098 all all [] 0).length)], .row ndT 52 (0 + (cp m 4098 all all [] 0).length + 1) (cp m 4098 all all [] 0)] σ' w' (.row 1 (0 + (cp m 4098 all all [] 0).length + 1)) u4 := by
    obtain ⟨q1, ob, q2, q3, q4⟩ := c4
    cases q2
    exact ⟨q1, .row ndT 52 (0 + (cp m 4098 all all [] 0).length + 1) (cp m 4098 all all [] 0), rfl, Nat.le_refl _, fun _ _ => ⟨⟨_, _, _, rfl⟩, (q4 rfl rfl).2⟩⟩
  obtain ⟨j1, j2⟩ := ji (k := 0) (T := 62) (cs' := [.int .i64 m.inp, .int .i64 m.st, .list (.list (.int .i64)) m.nx, .list (.list (.int .i64)) m.ot, .row 1 (0 + (cp m 4098 all all [] 0).length + 1)]) i1 rfl r1 r2 ⟨i2 _ _ c0, i2 _ _ c1, i2 _ _ c2, i2 _ _ c3, hnew, trivial⟩
  refine ⟨_, σ', .one (.int .i64 0), v, he, ⟨[.int .i64 m.inp, .int .i64 m.st, .list (.list (.int .i64)) m.nx, .list (.list (.int .i64)) m.ot, .row 1 (0 + (cp m 4098 all all [] 0).length + 1)], [.row ndT 52 (0 + (cp m 4098 all all [] 0).length + 1) (cp m 4098 all all [] 0)], rfl, ?_, rfl⟩, j1, j2.rv (i2.rv g2), ((d3.trans g3).trans i2).trans j2⟩
  show [_, _, _, _, if _ then _ else _] = _
  rw [if_pos rfl]; rfl
theorem jh (m : Mly) (hn : m.nx.length ≤ 1000) : bZ Try.prog 34 [m.av] (.one (.list (.int .i64) ((List.range m.nx.length).map fun (i : Nat) => (i : Int)))) := by
 refine aU Try.func34 rfl (by kernel_rfl) (Nat.le_of_ble_eq_true rfl) rfl fun C hP hN hB => ?_
 replace hN : C.N = 20 := hN
 simp only [bg, V]
 refine ai fun _ k1 => ?_
 refine ak hP hN rfl ?_
 iterate 2 (refine aj rfl fun _ k0 => ?_; simp only [zO, zT, acs, reduceCtorEq, aa, V, ad, ag, af, ae, Mly.av, ah, bh]; (repeat refine an ?_); (try refine .inl ?_); apply k0; clear k0; simp only [zP, V])
 refine am ?_
 apply k1; clear k1; refine kp [0, 1, 2] ?_
 refine ai fun _ k2 => ?_
 refine ak hP hN rfl ?_
 iterate 3 (refine aj rfl fun _ k0 => ?_; simp only [zO, zT, acs, reduceCtorEq, aa, V, ad, ag, af, ae, Mly.av, ah, bh]; (repeat refine an ?_); (try refine .inl ?_); apply k0; clear k0; simp only [zP, V])
 (refine aj rfl fun _ k0 => ?_; simp only [zE, op1, ev, lkp, d5, bQ, bM, d4, Nat.mul_one, bS, cI, acs, Ty.dflt, zG, bY, cr, fo, ew, cK, d7, eE, Nat.div_one, cR, df, Ty.size, br, dite_true, cQ, reduceCtorEq, aa, V, ad, ag, af, ae, Try.el22, Try.el41, Try.st24, Try.td2, Try.td22, Try.td24, Try.td3, Try.td41, Mly.av, ah, bh]; (repeat refine an ?_); (try refine .inl ?_); apply k0; clear k0; simp only [zP, V])
 (refine aj rfl fun _ k0 => ?_; simp only [zO, zT, acs, reduceCtorEq, aa, V, ad, ag, af, ae, Mly.av, ah, bh]; (repeat refine an ?_); (try refine .inl ?_); apply k0; clear k0; simp only [zP, V])
 refine am ?_
 apply k2; clear k2; refine kp [0, 1, 2, 3] ?_
 refine ai fun _ k3 => ?_
 refine ai fun _ k4 => ?_
 refine ak hP hN rfl ?_
 iterate 3 (refine aj rfl fun _ k0 => ?_; simp only [zO, zT, acs, reduceCtorEq, aa, V, ad, ag, af, ae, Mly.av, ah, bh]; (repeat refine an ?_); (try refine .inl ?_); apply k0; clear k0; simp only [zP, V])
 refine am ?_
 apply k4; clear k4; refine kp [0, 1, 2, 3, 10, 11] ?_
 refine ay ?_
 refine bb (fun n5 s5 => ∃ (k : Nat), (k ≤ m.nx.length) ∧ n5 = m.nx.length - k ∧ s5 = { env := [(2, .one .nils), (3, .one (.row 1 0)), (10, .one (.int .i64 (m.nx.length : Int))), (11, .one (.int .i64 (k : Int)))], L := [.vars 24 [.int .i64 m.inp, .int .i64 m.st, .list (.list (.int .i64)) m.nx, .list (.list (.int .i64)) m.ot], .row (.int .i64) 3 0 (prL (fun i => (i : Int)) m.nx.length k 0)] }) ?_ ?_
 ·refine ⟨_, _, aw [2, 3, 10, 11], 0, Nat.zero_le _, rfl, ?_⟩
  rw [yh]; rfl
 rintro n5 s5 ⟨k, hk, rfl, rfl⟩
 refine ai fun _ k6 => ?_
 refine ak hP hN rfl ?_
 (refine aj rfl fun _ k0 => ?_; simp only [zO, zT, acs, reduceCtorEq, aa, V, ad, ag, af, ae, Mly.av, ah, bh]; (repeat refine an ?_); (try refine .inl ?_); apply k0; clear k0; simp only [zP, V])
 refine am ?_
 apply k6; clear k6; refine kp [2, 3, 10, 11, 12] ?_
 refine ai fun _ k7 => ?_
 refine cd (fun hc8 => ?_) (fun hc8 => ?_)
 ·(try simp only [zB, reduceCtorEq] at hc8)
  refine ax ?_
  apply k7; clear k7; refine kp [2, 3, 10, 11, 12] ?_
  refine ai fun _ k9 => ?_
  refine ay ?_
  refine ai fun _ k10 => ?_
  refine ak hP hN rfl ?_
  iterate 2 (refine aj rfl fun _ k0 => ?_; simp only [zO, zT, acs, reduceCtorEq, aa, V, ad, ag, af, ae, Mly.av, ah, bh]; (repeat refine an ?_); (try refine .inl ?_); apply k0; clear k0; simp only [zP, V])
  refine am ?_
  apply k10; clear k10; refine kp [2, 3, 4, 10, 11, 12] ?_
  have hp9 := uh (f := fun i => (i : Int)) (n := m.nx.length) (s := k) (by omega)
  refine ak hP hN rfl ?_
  iterate 5 (refine aj rfl fun _ k0 => ?_; simp only [zO, zT, acs, reduceCtorEq, aa, V, ad, ag, af, ae, Mly.av, ah, bh, oh]; (repeat refine an ?_); (try refine .inl ?_); apply k0; clear k0; simp only [zP, V])
  refine am ?_
  apply k9; clear k9; refine kp [2, 3, 4, 10, 11, 12] ?_
  refine ak hP hN rfl ?_
  iterate 2 (refine aj rfl fun _ k0 => ?_; simp only [zO, zT, acs, reduceCtorEq, aa, V, ad, ag, af, ae, Mly.av, ah, bh]; (repeat refine an ?_); (try refine .inl ?_); apply k0; clear k0; simp only [zP, V])
  refine am ?_
  refine ⟨_, _, ?_, aw [2, 3, 10, 11], k + 1, by omega, rfl, ?_⟩
  · omega
  · rw [hp9, ← qA]; rfl
 (try simp only [zB, reduceCtorEq] at hc8)
 refine aX ?_
 apply k3; clear k3; refine kp [2, 3, 10, 11, 12] ?_
 refine ai fun _ k11 => ?_
 refine cO 1 rfl ?_; simp only [aF, bl, zS, aa, and_self, and_true, true_and, and_false, false_and, if_true, if_false, eq_self, reduceCtorEq, Nat.one_ne_zero, Nat.zero_ne_one]
 have hk9 : k = m.nx.length := by omega
 rw [hk9, tA]
 refine ak hP hN rfl ?_
 iterate 2 (refine aj rfl fun _ k0 => ?_; simp only [zO, zT, acs, reduceCtorEq, aa, V, ad, ag, af, ae, Mly.av, ah, bh]; (repeat refine an ?_); (try refine .inl ?_); apply k0; clear k0; simp only [zP, V])
 refine am ?_
 apply k11; clear k11; refine kp [2, 3, 10, 11, 12] ?_
 refine aB ?_
 refine ⟨nr, _, rfl, ?_⟩; simp only [zF, zP, aa, V, Mly.av, ah, bh]
 refine VLE.of_eq ?_
 rfl
set_option maxHeartbeats 1000000 in
theorem mM (m : Mly) : bZ Try.prog 11 [m.av] (.tup [.agg [.list ndT (gM m)], .one (.bool (iP m)), .one (.int .i64 (di m))]) := by
 have hbl := xl m
 refine aU Try.func11 rfl (by kernel_rfl) (Nat.le_of_ble_eq_true rfl) rfl fun C hP hN hB => ?_
 replace hN : C.N = 39 := hN
 simp only [bg, V]
 refine ai fun _ k1 => ?_
 refine ak hP hN rfl ?_
 iterate 4 (refine aj rfl fun _ k0 => ?_; simp only [zO, zT, acs, reduceCtorEq, aa, V, ad, ag, af, ae, Mly.av, bq, dk]; (repeat refine an ?_); (try refine .inl ?_); apply k0; clear k0; simp only [zP, V])
 refine am ?_
 apply k1; clear k1; refine kp [0, 1, 2, 3, 4] ?_
 refine ai fun _ k2 => ?_
 refine ai fun _ k3 => ?_
 refine ak hP hN rfl ?_
 (refine aj rfl fun _ k0 => ?_; simp only [zO, zT, acs, reduceCtorEq, aa, V, ad, ag, af, ae, Mly.av, bq, dk]; (repeat refine an ?_); (try refine .inl ?_); apply k0; clear k0; simp only [zP, V])
 refine aj rfl fun _ k0 => ?_
 refine aN (h := aA (qp m)) rfl rfl (by first | exact rfl | (simp only [ev, zP, aa, V]; exact rfl)) (by simp only [zV, acs, reduceCtorEq, aa, V, ad, ag, af, ae, Mly.av, bq, dk]) ?_
 apply k0; clear k0; simp only [zP, V]
 (refine aj rfl fun _ k0 => ?_; simp only [zO, zT, acs, reduceCtorEq, aa, V, ad, ag, af, ae, Mly.av, bq, dk]; (repeat refine an ?_); (try refine .inl ?_); apply k0; clear k0; simp only [zP, V])
 refine am ?_
 apply k3; clear k3; refine kp [0, 1, 2, 3, 4, 5] ?_
 refine ai fun _ k4 => ?_
 refine ak hP hN rfl ?_
 iterate 2 (refine aj rfl fun _ k0 => ?_; simp only [zO, zT, acs, reduceCtorEq, aa, V, ad, ag, af, ae, Mly.av, bq, dk]; (repeat refine an ?_); (try refine .inl ?_); apply k0; clear k0; simp only [zP, V])
 refine am ?_
 apply k4; clear k4; refine kp [0, 1, 2, 3, 4, 5, 11] ?_
 refine cd (fun hc5 => ?_) (fun hc5 => ?_)
 ·(try simp only [zB, reduceCtorEq] at hc5)
  have hE : ¬ dE m = 0 := hc5
  refine ai fun _ k6 => ?_
  refine ak hP hN rfl ?_
  iterate 5 (refine aj rfl fun _ k0 => ?_; simp only [zO, zT, acs, reduceCtorEq, aa, V, ad, ag, af, ae, Mly.av, bq, dk]; (repeat refine an ?_); (try refine .inl ?_); apply k0; clear k0; simp only [zP, V])
  refine am ?_
  apply k6; clear k6; refine kp [0, 1, 2, 3, 4, 5, 11] ?_
  refine aB ?_
  refine ⟨nr, _, rfl, ?_⟩; simp only [zF, zP, aa, V, Mly.av, bq, dk]
  first
  | (have hZ : di m = dE m := if_pos hE
     have hZ0 : ¬ di m = 0 := by rw [hZ]; exact hE
     rw [(fv hZ0).1, (fv hZ0).2, hZ]; exact cv ⟨dq ⟨bz rfl, trivial⟩, aZ (.refl _), aZ (.refl _), trivial⟩)
  | (have hZ : di m = 11 := (if_neg (fun h => h hE)).trans (if_pos hL)
     have hZ0 : ¬ di m = 0 := by rw [hZ]; decide
     rw [(fv hZ0).1, (fv hZ0).2, hZ]; exact cv ⟨dq ⟨bz rfl, trivial⟩, aZ (.refl _), aZ (.refl _), trivial⟩)
  | (have hZ : di m = 0 := (if_neg (fun h => h hE)).trans (if_neg hL)
     rw [(fP hZ).1, (fP hZ).2, hZ]; exact VLE.of_eq rfl)
 (try simp only [zB, reduceCtorEq] at hc5)
 have hE : dE m = 0 := by simpa using hc5
 have hm := fa (sw hE)
 have hn1 := hm.n1
 have hn2 := hm.n2
 refine ax ?_
 apply k2; clear k2; refine kp [0, 1, 2, 3, 4, 5, 11] ?_
 refine ai fun _ k7 => ?_
 refine ak hP hN rfl ?_
 iterate 4 (refine aj rfl fun _ k0 => ?_; simp only [zO, zT, acs, reduceCtorEq, aa, V, ad, ag, af, ae, Mly.av, bq, dk]; (repeat refine an ?_); (try refine .inl ?_); apply k0; clear k0; simp only [zP, V])
 refine am ?_
 apply k7; clear k7; refine kp [0, 1, 2, 3, 4, 5, 6, 11] ?_
 refine ai fun _ k8 => ?_
 refine bp hP hN Try.mixed rfl ?_
 iterate 2 (refine aj rfl fun _ k0 => ?_; simp only [zO, zT, acs, reduceCtorEq, aa, V, ad, ag, af, ae, Mly.av, bq, dk]; (repeat refine an ?_); (try refine .inl ?_); apply k0; clear k0; simp only [zP, V])
 refine aj rfl fun _ k0 => ?_
 refine aN (h := aA (jh m (by omega))) rfl rfl (by first | exact rfl | (simp only [ev, zP, aa, V]; exact rfl)) (by simp only [zV, acs, reduceCtorEq, aa, V, ad, ag, af, ae, Mly.av, bq, dk]) ?_
 apply k0; clear k0; simp only [zP, V]
 (refine aj rfl fun _ k0 => ?_; simp only [zO, zT, acs, reduceCtorEq, aa, V, ad, ag, af, ae, Mly.av, bq, dk]; (repeat refine an ?_); (try refine .inl ?_); apply k0; clear k0; simp only [zP, V])
 refine aj rfl fun _ k0 => ?_
 refine aN (h := aA (jh m (by omega))) rfl rfl (by first | exact rfl | (simp only [ev, zP, aa, V]; exact rfl)) (by simp only [zV, acs, reduceCtorEq, aa, V, ad, ag, af, ae, Mly.av, bq, dk]) ?_
 apply k0; clear k0; simp only [zP, V]
 (refine aj rfl fun _ k0 => ?_; simp only [zO, zT, acs, reduceCtorEq, aa, V, ad, ag, af, ae, Mly.av, bq, dk]; (repeat refine an ?_); (try refine .inl ?_); apply k0; clear k0; simp only [zP, V])
 refine aj rfl fun _ k0 => ?_
 refine aN (h := z6 m hm (rgI m.nx.length) (lN m) (by rw [db]; omega) (by rw [db]; omega) _ 2 rfl) rfl rfl (by first | exact rfl | (simp only [ev, zP, aa, V]; exact rfl)) (by simp only [zV, acs, reduceCtorEq, aa, V, ad, ag, af, ae, Mly.av, bq, dk]) ?_
 apply k0; clear k0; simp only [zP, V]
 refine am ?_
 refine ⟨by kernel_rfl, ?_⟩
 apply k8; clear k8; refine kp [0, 1, 2, 3, 4, 5, 6, 11] ?_
 refine ai fun _ k9 => ?_
 refine ai fun _ k10 => ?_
 refine ak hP hN rfl ?_
 iterate 6 (refine aj rfl fun _ k0 => ?_; simp only [zO, zT, acs, reduceCtorEq, aa, V, ad, ag, af, ae, Mly.av, bq, dk]; (repeat refine an ?_); (try refine .inl ?_); apply k0; clear k0; simp only [zP, V])
 refine am ?_
 apply k10; clear k10; refine kp [0, 1, 2, 3, 4, 5, 6, 11, 29] ?_
 refine cd (fun hc11 => ?_) (fun hc11 => ?_)
 ·(try simp only [zB, reduceCtorEq] at hc11)
  have hL : 4096 < (eO m).length := by have h9 : (4096 : Int) < ((eO m).length : Int) := hc11; omega
  refine ai fun _ k12 => ?_
  refine ak hP hN rfl ?_
  iterate 4 (refine aj rfl fun _ k0 => ?_; simp only [zO, zT, acs, reduceCtorEq, aa, V, ad, ag, af, ae, Mly.av, bq, dk]; (repeat refine an ?_); (try refine .inl ?_); apply k0; clear k0; simp only [zP, V])
  refine am ?_
  apply k12; clear k12; refine kp [0, 1, 2, 3, 4, 5, 6, 11, 29] ?_
  refine aB ?_
  refine ⟨nr, _, rfl, ?_⟩; simp only [zF, zP, aa, V, Mly.av, bq, dk]
  first
  | (have hZ : di m = dE m := if_pos hE
     have hZ0 : ¬ di m = 0 := by rw [hZ]; exact hE
     rw [(fv hZ0).1, (fv hZ0).2, hZ]; exact cv ⟨dq ⟨bz rfl, trivial⟩, aZ (.refl _), aZ (.refl _), trivial⟩)
  | (have hZ : di m = 11 := (if_neg (fun h => h hE)).trans (if_pos hL)
     have hZ0 : ¬ di m = 0 := by rw [hZ]; decide
     rw [(fv hZ0).1, (fv hZ0).2, hZ]; exact cv ⟨dq ⟨bz rfl, trivial⟩, aZ (.refl _), aZ (.refl _), trivial⟩)
  | (have hZ : di m = 0 := (if_neg (fun h => h hE)).trans (if_neg hL)
     rw [(fP hZ).1, (fP hZ).2, hZ]; exact VLE.of_eq rfl)
 (try simp only [zB, reduceCtorEq] at hc11)
 have hL : ¬ 4096 < (eO m).length := by have h9 : ((eO m).length : Int) ≤ 4096 := hc11; omega
 refine ax ?_
 apply k9; clear k9; refine kp [0, 1, 2, 3, 4, 5, 6, 11, 29] ?_
 refine ai fun _ k13 => ?_
 refine ak hP hN rfl ?_
 iterate 7 (refine aj rfl fun _ k0 => ?_; simp only [zO, zT, acs, reduceCtorEq, aa, V, ad, ag, af, ae, Mly.av, bq, dk]; (repeat refine an ?_); (try refine .inl ?_); apply k0; clear k0; simp only [zP, V])
 refine am ?_
 apply k13; clear k13; refine kp [0, 1, 2, 3, 4, 5, 6, 7, 11, 29] ?_
 refine ai fun _ k14 => ?_
 refine bp hP hN Try.mixed rfl ?_
 iterate 2 (refine aj rfl fun _ k0 => ?_; simp only [zO, zT, acs, reduceCtorEq, aa, V, ad, ag, af, ae, Mly.av, bq, dk]; (repeat refine an ?_); (try refine .inl ?_); apply k0; clear k0; simp only [zP, V])
 refine aj rfl fun _ k0 => ?_
 refine aN (h := aA (vU (eO m) (by omega))) rfl rfl (by first | exact rfl | (simp only [ev, zP, aa, V]; exact rfl)) (by simp only [zV, acs, reduceCtorEq, aa, V, ad, ag, af, ae, Mly.av, bq, dk]) ?_
 apply k0; clear k0; simp only [zP, V]
 iterate 3 (refine aj rfl fun _ k0 => ?_; simp only [zO, zT, acs, reduceCtorEq, aa, V, ad, ag, af, ae, Mly.av, bq, dk]; (repeat refine an ?_); (try refine .inl ?_); apply k0; clear k0; simp only [zP, V])
 refine am ?_
 refine ⟨by kernel_rfl, ?_⟩
 apply k14; clear k14; refine kp [0, 1, 2, 3, 4, 5, 6, 7, 11, 29] ?_
 refine aB ?_
 refine ⟨nr, _, rfl, ?_⟩; simp only [zF, zP, aa, V, Mly.av, bq, dk]
 first
 | (have hZ : di m = dE m := if_pos hE
    have hZ0 : ¬ di m = 0 := by rw [hZ]; exact hE
    rw [(fv hZ0).1, (fv hZ0).2, hZ]; exact cv ⟨dq ⟨bz rfl, trivial⟩, aZ (.refl _), aZ (.refl _), trivial⟩)
 | (have hZ : di m = 11 := (if_neg (fun h => h hE)).trans (if_pos hL)
    have hZ0 : ¬ di m = 0 := by rw [hZ]; decide
    rw [(fv hZ0).1, (fv hZ0).2, hZ]; exact cv ⟨dq ⟨bz rfl, trivial⟩, aZ (.refl _), aZ (.refl _), trivial⟩)
 | (have hZ : di m = 0 := (if_neg (fun h => h hE)).trans (if_neg hL)
    rw [(fP hZ).1, (fP hZ).2, hZ]; exact VLE.of_eq rfl)
theorem vD (xs : List Int) (h0 : 0 < xs.length) (hl : xs.length ≤ 1000000) : bZ Try.prog 60 [.one (.list (.int .i64) xs)] (.one (.int .i64 ((aC xs).length : Int))) := by
 refine aU Try.func60 rfl (by kernel_rfl) (Nat.le_of_ble_eq_true rfl) rfl fun C hP hN hB => ?_
 replace hN : C.N = 11 := hN
 simp only [bg, V]
 refine ai fun _ k1 => ?_
 refine ak hP hN rfl ?_
 (refine aj rfl fun _ k0 => ?_; simp only [zO, zT, acs, reduceCtorEq, aa, V, ad, ag, af, ae]; (repeat refine an ?_); (try refine .inl ?_); apply k0; clear k0; simp only [zP, V])
 refine am ?_
 apply k1; clear k1; refine kp [0, 2] ?_
 refine ai fun _ k2 => ?_
 refine ak hP hN rfl ?_
 (refine aj rfl fun _ k0 => ?_; simp only [zO, zT, acs, reduceCtorEq, aa, V, ad, ag, af, ae]; (repeat refine an ?_); (try refine .inl ?_); apply k0; clear k0; simp only [zP, V])
 refine aj rfl fun _ k0 => ?_
 refine aN (h := kV (m9 xs h0 (by omega))) rfl rfl (by first | exact rfl | (simp only [ev, zP, aa, V]; exact rfl)) (by simp only [zV, acs, reduceCtorEq, aa, V, ad, ag, af, ae]) ?_
 apply k0; clear k0; simp only [zP, V]
 (refine aj rfl fun _ k0 => ?_; simp only [zO, zT, acs, reduceCtorEq, aa, V, ad, ag, af, ae]; (repeat refine an ?_); (try refine .inl ?_); apply k0; clear k0; simp only [zP, V])
 refine am ?_
 apply k2; clear k2; refine kp [0, 2, 3] ?_
 refine ai fun _ k3 => ?_
 refine ak hP hN rfl ?_
 (refine aj rfl fun _ k0 => ?_; simp only [zO, zT, acs, reduceCtorEq, aa, V, ad, ag, af, ae]; (repeat refine an ?_); (try refine .inl ?_); apply k0; clear k0; simp only [zP, V])
 refine aj rfl fun _ k0 => ?_
 refine aN (h := pT (k := 0) (ver := 0) (xs := xs) tq rfl (by omega) (by omega)) rfl rfl (by first | exact rfl | (simp only [ev, zP, aa, V]; exact rfl)) (by simp only [zV, acs, reduceCtorEq, aa, V, ad, ag, af, ae]) ?_
 apply k0; clear k0; simp only [zP, V]
 refine am ?_
 apply k3; clear k3; refine kp [0, 2, 3] ?_
 refine ai fun _ k4 => ?_
 refine ak hP hN rfl ?_
 (refine aj rfl fun _ k0 => ?_; simp only [zO, zT, acs, reduceCtorEq, aa, V, ad, ag, af, ae]; (repeat refine an ?_); (try refine .inl ?_); apply k0; clear k0; simp only [zP, V])
 refine aj rfl fun _ k0 => ?_
 refine aN (h := kw (k := 0) (ver := 0) (xs := gI xs) nt rfl (by rw [gV]; omega) (by rw [gV]; omega) ja) rfl rfl (by first | exact rfl | (simp only [ev, zP, aa, V]; exact rfl)) (by simp only [zV, acs, reduceCtorEq, aa, V, ad, ag, af, ae]) ?_
 apply k0; clear k0; simp only [zP, V]
 iterate 2 (refine aj rfl fun _ k0 => ?_; simp only [zO, zT, acs, reduceCtorEq, aa, V, ad, ag, af, ae]; (repeat refine an ?_); (try refine .inl ?_); apply k0; clear k0; simp only [zP, V])
 refine am ?_
 apply k4; clear k4; refine kp [0, 2, 3] ?_
 refine aB ?_
 refine ⟨nr, _, rfl, ?_⟩; simp only [zF, zP, aa, V]
 refine VLE.of_eq ?_
 rfl
theorem AW (xs ys : List Int) : bZ Try.prog 59 [.one (.list (.int .i64) xs), .one (.list (.int .i64) ys)] (.one (.bool (decide (xs = ys)))) := by
 refine aU Try.func59 rfl (by kernel_rfl) (Nat.le_of_ble_eq_true rfl) rfl fun C hP hN hB => ?_
 replace hN : C.N = 26 := hN
 simp only [bg, V]
 refine pr 0 rfl fun hf0 => ?_; simp only [lkp, if_true, if_false, reduceCtorEq, aa, eq_self, Nat.one_ne_zero, Nat.zero_ne_one, tE, qZ, rp, Fit, and_true, implies_true, true_and] at hf0
 refine ai fun _ k1 => ?_
 refine ak hP hN rfl ?_
 (refine aj rfl fun _ k0 => ?_; simp only [zO, zT, acs, reduceCtorEq, aa, V, ad, ag, af, ae]; (repeat refine an ?_); (try refine .inl ?_); apply k0; clear k0; simp only [zP, V])
 refine am ?_
 apply k1; clear k1; refine kp [0, 1, 4] ?_
 refine ai fun _ k2 => ?_
 refine ai fun _ k3 => ?_
 refine ak hP hN rfl ?_
 iterate 5 (refine aj rfl fun _ k0 => ?_; simp only [zO, zT, acs, reduceCtorEq, aa, V, ad, ag, af, ae]; (repeat refine an ?_); (try refine .inl ?_); apply k0; clear k0; simp only [zP, V])
 refine am ?_
 apply k3; clear k3; refine kp [0, 1, 4, 10] ?_
 refine cd (fun hc4 => ?_) (fun hc4 => ?_)
 ·(try simp only [zB, reduceCtorEq] at hc4)
  refine ai fun _ k5 => ?_
  refine ak hP hN rfl ?_
  (refine aj rfl fun _ k0 => ?_; simp only [zO, zT, acs, reduceCtorEq, aa, V, ad, ag, af, ae]; (repeat refine an ?_); (try refine .inl ?_); apply k0; clear k0; simp only [zP, V])
  refine am ?_
  apply k5; clear k5; refine kp [0, 1, 4, 10] ?_
  refine aB ?_
  refine ⟨nr, _, rfl, ?_⟩; simp only [zF, zP, aa, V]
  refine VLE.of_eq ?_
  first
  | (refine dW ?_; rintro rfl; first | exact absurd rfl ‹¬ _› | omega)
  | (refine ez ?_; have hk1 : k = xs.length := by omega
     have hk2 : k = ys.length := by omega
     rw [hk1, aJ, ← hk1, hk2, aJ] at hT; exact hT)
 (try simp only [zB, reduceCtorEq] at hc4)
 refine ax ?_
 apply k2; clear k2; refine kp [0, 1, 4, 10] ?_
 refine ai fun _ k6 => ?_
 refine ai fun _ k7 => ?_
 refine ak hP hN rfl ?_
 iterate 3 (refine aj rfl fun _ k0 => ?_; simp only [zO, zT, acs, reduceCtorEq, aa, V, ad, ag, af, ae]; (repeat refine an ?_); (try refine .inl ?_); apply k0; clear k0; simp only [zP, V])
 refine am ?_
 apply k7; clear k7; refine kp [0, 1, 4, 10, 12, 13] ?_
 refine ay ?_
 refine bb (fun n8 s8 => ∃ (k : Nat), (k ≤ xs.length) ∧ (xs.take k = ys.take k) ∧ n8 = xs.length - k ∧ s8 = { env := [(0, .one (.list (.int .i64) xs)), (1, .one (.list (.int .i64) ys)), (12, .one (.int .i64 (xs.length : Int))), (13, .one (.int .i64 (k : Int)))], L := [] }) ?_ ?_
 ·exact ⟨_, _, aw [0, 1, 12, 13], 0, Nat.zero_le _, rfl, rfl, rfl⟩
 rintro n8 s8 ⟨k, hk, hT, rfl, rfl⟩
 refine ai fun _ k9 => ?_
 refine ak hP hN rfl ?_
 (refine aj rfl fun _ k0 => ?_; simp only [zO, zT, acs, reduceCtorEq, aa, V, ad, ag, af, ae]; (repeat refine an ?_); (try refine .inl ?_); apply k0; clear k0; simp only [zP, V])
 refine am ?_
 apply k9; clear k9; refine kp [0, 1, 12, 13, 14] ?_
 refine ai fun _ k10 => ?_
 refine cd (fun hc11 => ?_) (fun hc11 => ?_)
 ·(try simp only [zB, reduceCtorEq] at hc11)
  refine ax ?_
  apply k10; clear k10; refine kp [0, 1, 12, 13, 14] ?_
  refine ai fun _ k12 => ?_
  refine ay ?_
  refine ai fun _ k13 => ?_
  refine ak hP hN rfl ?_
  iterate 2 (refine aj rfl fun _ k0 => ?_; simp only [zO, zT, acs, reduceCtorEq, aa, V, ad, ag, af, ae]; (repeat refine an ?_); (try refine .inl ?_); apply k0; clear k0; simp only [zP, V])
  refine am ?_
  apply k13; clear k13; refine kp [0, 1, 5, 12, 13, 14] ?_
  refine ai fun _ k14 => ?_
  refine bp hP hN Try.mixed rfl ?_
  iterate 9 (refine aj rfl fun _ k0 => ?_; simp only [zO, zT, acs, reduceCtorEq, aa, V, ad, ag, af, ae]; (repeat refine an ?_); (try refine .inl ?_); apply k0; clear k0; simp only [zP, V])
  refine am ?_
  refine ⟨by kernel_rfl, ?_⟩
  apply k14; clear k14; refine kp [0, 1, 5, 12, 13, 14, 24] ?_
  refine cd (fun hc15 => ?_) (fun hc15 => ?_)
  ·(try simp only [zB, reduceCtorEq] at hc15)
   refine ai fun _ k16 => ?_
   refine ak hP hN rfl ?_
   (refine aj rfl fun _ k0 => ?_; simp only [zO, zT, acs, reduceCtorEq, aa, V, ad, ag, af, ae]; (repeat refine an ?_); (try refine .inl ?_); apply k0; clear k0; simp only [zP, V])
   refine am ?_
   apply k16; clear k16; refine kp [0, 1, 4, 5, 12, 13, 14, 24] ?_
   refine aB ?_
   refine ⟨nr, _, rfl, ?_⟩; simp only [zF, zP, aa, V]
   refine VLE.of_eq ?_
   first
   | (refine dW ?_; rintro rfl; first | exact absurd rfl ‹¬ _› | omega)
   | (refine ez ?_; have hk1 : k = xs.length := by omega
      have hk2 : k = ys.length := by omega
      rw [hk1, aJ, ← hk1, hk2, aJ] at hT; exact hT)
  (try simp only [zB, reduceCtorEq] at hc15)
  refine ax ?_
  apply k12; clear k12; refine kp [0, 1, 5, 12, 13, 14, 24] ?_
  refine ak hP hN rfl ?_
  iterate 2 (refine aj rfl fun _ k0 => ?_; simp only [zO, zT, acs, reduceCtorEq, aa, V, ad, ag, af, ae]; (repeat refine an ?_); (try refine .inl ?_); apply k0; clear k0; simp only [zP, V])
  refine am ?_
  refine ⟨_, _, ?_, aw [0, 1, 12, 13], k + 1, by omega, ir (d := 0) hT (by omega) (by omega) ?_, rfl, rfl⟩
  · omega
  · first | assumption | omega
 (try simp only [zB, reduceCtorEq] at hc11)
 refine aX ?_
 apply k6; clear k6; refine kp [0, 1, 12, 13, 14] ?_
 refine ai fun _ k17 => ?_
 refine ak hP hN rfl ?_
 (refine aj rfl fun _ k0 => ?_; simp only [zO, zT, acs, reduceCtorEq, aa, V, ad, ag, af, ae]; (repeat refine an ?_); (try refine .inl ?_); apply k0; clear k0; simp only [zP, V])
 refine am ?_
 apply k17; clear k17; refine kp [0, 1, 4, 12, 13, 14] ?_
 refine aB ?_
 refine ⟨nr, _, rfl, ?_⟩; simp only [zF, zP, aa, V]
 refine VLE.of_eq ?_
 first
 | (refine dW ?_; rintro rfl; first | exact absurd rfl ‹¬ _› | omega)
 | (refine ez ?_; have hk1 : k = xs.length := by omega
    have hk2 : k = ys.length := by omega
    rw [hk1, aJ, ← hk1, hk2, aJ] at hT; exact hT)
set_option maxHeartbeats 4000000 in
theorem z8 (f : Nat) (m : Mly) (hm : MOK m) (T : List bc) (hT : T.length ≤ 4096) (IH : ∀ (p : Nat) (ini cur : List Int) (x : Value), T.length + 1 ≤ f + p → p ≤ T.length → cU m cur → ini.length = cur.length → 0 < cur.length → cur.length ≤ 1000 → ∀ (L0 : List AO) (m0 : Nat) (hm0 : L0[m0]? = some (.vars 62 [.int .i64 m.inp, .int .i64 m.st, .list (.list (.int .i64)) m.nx, .list (.list (.int .i64)) m.ot, .exact x])), er Try.prog L0 37 (List.map (mv1 m0) [.one (.ptr 0 0 0 0), .agg [.list ndT T], .one (.int .i64 (p : Int)), .agg [.list (.int .i64) ini, .list (.int .i64) cur]]) { av := .tup [.one (.int .i64 (rtP m T f p ini cur)), .one (.bool (rtF m T f p ini cur).isSome)], upd := [(m0, .vars 62 [.int .i64 m.inp, .int .i64 m.st, .list (.list (.int .i64)) m.nx, .list (.list (.int .i64)) m.ot, .exact x])], fp := [m0] }) (p : Nat) (ini cur : List Int) (x : Value) (hf : T.length + 1 ≤ (f + 1) + p) (hp : p ≤ T.length) (hs : cU m cur) (hil : ini.length = cur.length) (h0 : 0 < cur.length) (hl : cur.length ≤ 1000) (L0 : List AO) (m0 : Nat) (hm0 : L0[m0]? = some (.vars 62 [.int .i64 m.inp, .int .i64 m.st, .list (.list (.int .i64)) m.nx, .list (.list (.int .i64)) m.ot, .exact x])) : er Try.prog L0 37 (List.map (mv1 m0) [.one (.ptr 0 0 0 0), .agg [.list ndT T], .one (.int .i64 (p : Int)), .agg [.list (.int .i64) ini, .list (.int .i64) cur]]) { av := .tup [.one (.int .i64 (rtP m T (f + 1) p ini cur)), .one (.bool (rtF m T (f + 1) p ini cur).isSome)], upd := [(m0, .vars 62 [.int .i64 m.inp, .int .i64 m.st, .list (.list (.int .i64)) m.nx, .list (.list (.int .i64)) m.ot, .exact x])], fp := [m0] } := by
 refine oJ Try.func37 rfl (by kernel_rfl) (Nat.le_of_ble_eq_true rfl) rfl rfl (fun C hP hN hB => ?_) L0 m0 hm0
 replace hN : C.N = 124 := hN
 simp only [bg, V]
 refine ai fun _ k1 => ?_
 refine ak hP hN rfl ?_
 iterate 4 (refine aj rfl fun _ k0 => ?_; simp only [zO, zT, acs, reduceCtorEq, aa, V, ad, ag, af, ae, ah, aD, aR, aK, aI]; (repeat refine an ?_); (try refine .inl ?_); apply k0; clear k0; simp only [zP, V])
 refine am ?_
 apply k1; clear k1; refine kp [0, 1, 2, 3, 5, 7, 8, 9] ?_
 refine ai fun _ k2 => ?_
 refine ai fun _ k3 => ?_
 refine bp hP hN Try.mixed rfl ?_
 iterate 6 (refine aj rfl fun _ k0 => ?_; simp only [zO, zT, acs, reduceCtorEq, aa, V, ad, ag, af, ae, ah, aD, aR, aK, aI]; (repeat refine an ?_); (try refine .inl ?_); apply k0; clear k0; simp only [zP, V])
 refine' aP (want := false) 10 rfl (m := 23) (by simp only [zP, aa, V]; exact rfl) (by kernel_rfl) rfl rfl rfl rfl rfl (fun hg4 => ?a4) ?b4 ?c4
 case a4 =>
  have hq4 := hg4; (try simp only [zB, reduceCtorEq] at hg4); simp only [zE]
  iterate 8 (refine bf rfl fun _ k0 => ?_; simp only [zO, zT, acs, reduceCtorEq, aa, V, ad, ag, af, ae, ah, aD, aR, aK, aI]; (repeat refine an ?_); (try refine .inl ?_); apply k0; clear k0; simp only [zP, V])
  refine bf rfl fun _ k0 => ?_
  refine aN (h := aA (AW (T.getD p nd0).1 ini)) rfl rfl (by first | exact rfl | (simp only [ev, zP, aa, V]; exact rfl)) (by simp only [zV, acs, reduceCtorEq, aa, V, ad, ag, af, ae, ah, aD, aR, aK, aI]) ?_
  apply k0; clear k0; simp only [zP, V]
  (refine bf rfl fun _ k0 => ?_; simp only [zO, zT, acs, reduceCtorEq, aa, V, ad, ag, af, ae, ah, aD, aR, aK, aI]; (repeat refine an ?_); (try refine .inl ?_); apply k0; clear k0; simp only [zP, V])
  (refine aj rfl fun _ k0 => ?_; simp only [zO, zT, acs, reduceCtorEq, aa, V, ad, ag, af, ae, ah, aD, aR, aK, aI]; (repeat refine an ?_); (try refine .inl ?_); apply k0; clear k0; simp only [zP, V])
  refine am ?_
  refine ⟨by simp only [zP, aa, V]; exact rfl, rfl, ?_, rfl⟩; (repeat refine aQ rfl ?_); exact bn (by exact rfl) hq4
 case b4 => exact cq
 simp only [b7, aT]
 (refine aj rfl fun _ k0 => ?_; simp only [zO, zT, acs, reduceCtorEq, aa, V, ad, ag, af, ae, ah, aD, aR, aK, aI]; (repeat refine an ?_); (try refine .inl ?_); apply k0; clear k0; simp only [zP, V])
 refine' aP (want := false) 7 rfl (m := 35) (by simp only [zP, aa, V]; exact rfl) (by kernel_rfl) rfl rfl rfl rfl rfl (fun hg5 => ?a5) ?b5 ?c5
 case a5 =>
  have hq5 := hg5; (try simp only [zB, reduceCtorEq] at hg5); simp only [zE]
  iterate 2 (refine bf rfl fun _ k0 => ?_; simp only [zO, zT, acs, reduceCtorEq, aa, V, ad, ag, af, ae, ah, aD, aR, aK, aI]; (repeat refine an ?_); (try refine .inl ?_); apply k0; clear k0; simp only [zP, V])
  refine bf rfl fun _ k0 => ?_
  refine aN (h := aA (vD cur h0 (by omega))) rfl rfl (by first | exact rfl | (simp only [ev, zP, aa, V]; exact rfl)) (by simp only [zV, acs, reduceCtorEq, aa, V, ad, ag, af, ae, ah, aD, aR, aK, aI]) ?_
  apply k0; clear k0; simp only [zP, V]
  iterate 4 (refine bf rfl fun _ k0 => ?_; simp only [zO, zT, acs, reduceCtorEq, aa, V, ad, ag, af, ae, ah, aD, aR, aK, aI]; (repeat refine an ?_); (try refine .inl ?_); apply k0; clear k0; simp only [zP, V])
  (refine aj rfl fun _ k0 => ?_; simp only [zO, zT, acs, reduceCtorEq, aa, V, ad, ag, af, ae, ah, aD, aR, aK, aI]; (repeat refine an ?_); (try refine .inl ?_); apply k0; clear k0; simp only [zP, V])
  refine am ?_
  refine ⟨by simp only [zP, aa, V]; exact rfl, rfl, ?_, rfl⟩; (repeat refine aQ rfl ?_); exact bn (by exact rfl) hq5
 case b5 => exact cq
 simp only [b7, aT]
 refine am ?_
 refine ⟨by kernel_rfl, ?_⟩
 apply k3; clear k3; refine kp [0, 1, 2, 3, 5, 7, 8, 9, 43] ?_
 refine cd (fun hc6 => ?_) (fun hc6 => ?_)
 ·(try simp only [zB, reduceCtorEq] at hc6)
  have hno : ¬ (p < T.length ∧ (T.getD p nd0).1 = ini ∧ cur.Nodup) := by
    rintro ⟨h1, h2, h3⟩
    have h4 := nb.2 h3
    rcases hc6 with (h9 | h9) | h9
    · omega
    · exact h9 h2
    · omega
  have hNN := o5 (m := m) (f := f) hno
  have hMM : ¬ ((p < T.length ∧ (T.getD p nd0).1 = ini ∧ cur.Nodup) ∧ (T.getD p nd0).2.1 = -1) := fun h => hno h.1
  refine ai fun _ k7 => ?_
  refine ak hP hN rfl ?_
  iterate 2 (refine aj rfl fun _ k0 => ?_; simp only [zO, zT, acs, reduceCtorEq, aa, V, ad, ag, af, ae, ah, aD, aR, aK, aI]; (repeat refine an ?_); (try refine .inl ?_); apply k0; clear k0; simp only [zP, V])
  refine am ?_
  apply k7; clear k7; refine kp [0, 1, 2, 3, 5, 7, 8, 9, 43] ?_
  refine aB ?_
  refine ⟨by first | exact .inl rfl | exact .inr rfl, _, rfl, _, _, rfl, ?_, ?_⟩ <;> simp only [fzV, fz1, fzC, aF, bl, zP, aa, V, ah, aD, aR, aK, aI]
  all_goals first
  | (rw [j6 hNN hMM, hNN]; rfl)
  | (rw [d9 hSS, hSS]; rfl)
  | (by_cases hz : (T.getD p nd0).2.2.1.length = 0
     · have hSS := (dj (m := m) (f := f) hyes hx1).trans (if_pos hz)
       rw [d9 hSS, hSS]
       show AV.tup [.one (.int .i64 ((p : Int) + 1)), .one (.bool (decide (((T.getD p nd0).2.2.1.length : Int) = 0)))] = _
       rw [decide_eq_true (by omega)]; rfl
     · have hNN := (dj (m := m) (f := f) hyes hx1).trans (if_neg hz)
       rw [gg hNN ⟨hyes, hx1⟩, hNN]
       show AV.tup [.one (.int .i64 ((p : Int) + 1)), .one (.bool (decide (((T.getD p nd0).2.2.1.length : Int) = 0)))] = _
       rw [decide_eq_false (by omega)]; rfl)
 (try simp only [zB, reduceCtorEq] at hc6)
 have hyes : p < T.length ∧ (T.getD p nd0).1 = ini ∧ cur.Nodup := ⟨by omega, hc6.1.2, nb.1 (by omega)⟩
 refine ax ?_
 apply k2; clear k2; refine kp [0, 1, 2, 3, 5, 7, 8, 9, 43] ?_
 refine ai fun _ k8 => ?_
 refine ak hP hN rfl ?_
 iterate 7 (refine aj rfl fun _ k0 => ?_; simp only [zO, zT, acs, reduceCtorEq, aa, V, ad, ag, af, ae, ah, aD, aR, aK, aI]; (repeat refine an ?_); (try refine .inl ?_); apply k0; clear k0; simp only [zP, V])
 refine am ?_
 apply k8; clear k8; refine kp [0, 1, 2, 3, 5, 7, 8, 9, 10, 43] ?_
 refine ai fun _ k9 => ?_
 refine ai fun _ k10 => ?_
 refine ak hP hN rfl ?_
 iterate 3 (refine aj rfl fun _ k0 => ?_; simp only [zO, zT, acs, reduceCtorEq, aa, V, ad, ag, af, ae, ah, aD, aR, aK, aI]; (repeat refine an ?_); (try refine .inl ?_); apply k0; clear k0; simp only [zP, V])
 refine am ?_
 apply k10; clear k10; refine kp [0, 1, 2, 3, 5, 7, 8, 9, 10, 43, 51] ?_
 refine cd (fun hc11 => ?_) (fun hc11 => ?_)
 ·(try simp only [zB, reduceCtorEq] at hc11)
  have hx1 : (T.getD p nd0).2.1 = -1 := hc11
  refine ai fun _ k12 => ?_
  refine bp hP hN Try.mixed rfl ?_
  iterate 8 (refine aj rfl fun _ k0 => ?_; simp only [zO, zT, acs, reduceCtorEq, aa, V, ad, ag, af, ae, ah, aD, aR, aK, aI]; (repeat refine an ?_); (try refine .inl ?_); apply k0; clear k0; simp only [zP, V])
  refine am ?_
  refine ⟨by kernel_rfl, ?_⟩
  apply k12; clear k12; refine kp [0, 1, 2, 3, 5, 7, 8, 9, 10, 43, 51] ?_
  refine aB ?_
  refine ⟨by first | exact .inl rfl | exact .inr rfl, _, rfl, _, _, rfl, ?_, ?_⟩ <;> simp only [fzV, fz1, fzC, aF, bl, zP, aa, V, ah, aD, aR, aK, aI]
  all_goals first
  | (rw [j6 hNN hMM, hNN]; rfl)
  | (rw [d9 hSS, hSS]; rfl)
  | (by_cases hz : (T.getD p nd0).2.2.1.length = 0
     · have hSS := (dj (m := m) (f := f) hyes hx1).trans (if_pos hz)
       rw [d9 hSS, hSS]
       show AV.tup [.one (.int .i64 ((p : Int) + 1)), .one (.bool (decide (((T.getD p nd0).2.2.1.length : Int) = 0)))] = _
       rw [decide_eq_true (by omega)]; rfl
     · have hNN := (dj (m := m) (f := f) hyes hx1).trans (if_neg hz)
       rw [gg hNN ⟨hyes, hx1⟩, hNN]
       show AV.tup [.one (.int .i64 ((p : Int) + 1)), .one (.bool (decide (((T.getD p nd0).2.2.1.length : Int) = 0)))] = _
       rw [decide_eq_false (by omega)]; rfl)
 (try simp only [zB, reduceCtorEq] at hc11)
 have hx1 : ¬ (T.getD p nd0).2.1 = -1 := hc11
 have hMM : ¬ ((p < T.length ∧ (T.getD p nd0).1 = ini ∧ cur.Nodup) ∧ (T.getD p nd0).2.1 = -1) := fun h => hx1 h.2
 refine ax ?_
 apply k9; clear k9; refine kp [0, 1, 2, 3, 5, 7, 8, 9, 10, 43, 51] ?_
 refine ai fun _ k13 => ?_
 refine ai fun _ k14 => ?_
 refine bp hP hN Try.mixed rfl ?_
 iterate 4 (refine aj rfl fun _ k0 => ?_; simp only [zO, zT, acs, reduceCtorEq, aa, V, ad, ag, af, ae, ah, aD, aR, aK, aI]; (repeat refine an ?_); (try refine .inl ?_); apply k0; clear k0; simp only [zP, V])
 refine' aP (want := false) 8 rfl (m := 61) (by simp only [zP, aa, V]; exact rfl) (by kernel_rfl) rfl rfl rfl rfl rfl (fun hg15 => ?a15) ?b15 ?c15
 case a15 =>
  have hq15 := hg15; (try simp only [zB, reduceCtorEq] at hg15); simp only [zE]
  iterate 8 (refine bf rfl fun _ k0 => ?_; simp only [zO, zT, acs, reduceCtorEq, aa, V, ad, ag, af, ae, ah, aD, aR, aK, aI]; (repeat refine an ?_); (try refine .inl ?_); apply k0; clear k0; simp only [zP, V])
  (refine aj rfl fun _ k0 => ?_; simp only [zO, zT, acs, reduceCtorEq, aa, V, ad, ag, af, ae, ah, aD, aR, aK, aI]; (repeat refine an ?_); (try refine .inl ?_); apply k0; clear k0; simp only [zP, V])
  refine am ?_
  refine ⟨by simp only [zP, aa, V]; exact rfl, rfl, ?_, rfl⟩; (repeat refine aQ rfl ?_); exact bn (by exact rfl) hq15
 case b15 => exact cq
 simp only [b7, aT]
 refine am ?_
 refine ⟨by kernel_rfl, ?_⟩
 apply k14; clear k14; refine kp [0, 1, 2, 3, 5, 7, 8, 9, 10, 43, 51, 70] ?_
 refine cd (fun hc16 => ?_) (fun hc16 => ?_)
 ·(try simp only [zB, reduceCtorEq] at hc16)
  have hxb : ¬ (0 ≤ (T.getD p nd0).2.1 ∧ (T.getD p nd0).2.1 < m.inp ∧ (aC (ouL m cur (T.getD p nd0).2.1)).length = (T.getD p nd0).2.2.1.length) := by
    have h8 : (T.getD p nd0).2.1 < 0 ∨ m.inp ≤ (T.getD p nd0).2.1 := hc16
    omega
  have hNN := om (f := f) (p := p) (ini := ini) hx1 hxb
  refine ai fun _ k17 => ?_
  refine ak hP hN rfl ?_
  iterate 2 (refine aj rfl fun _ k0 => ?_; simp only [zO, zT, acs, reduceCtorEq, aa, V, ad, ag, af, ae, ah, aD, aR, aK, aI]; (repeat refine an ?_); (try refine .inl ?_); apply k0; clear k0; simp only [zP, V])
  refine am ?_
  apply k17; clear k17; refine kp [0, 1, 2, 3, 5, 7, 8, 9, 10, 43, 51, 70] ?_
  refine aB ?_
  refine ⟨by first | exact .inl rfl | exact .inr rfl, _, rfl, _, _, rfl, ?_, ?_⟩ <;> simp only [fzV, fz1, fzC, aF, bl, zP, aa, V, ah, aD, aR, aK, aI]
  all_goals first
  | (rw [j6 hNN hMM, hNN]; rfl)
  | (rw [d9 hSS, hSS]; rfl)
  | (by_cases hz : (T.getD p nd0).2.2.1.length = 0
     · have hSS := (dj (m := m) (f := f) hyes hx1).trans (if_pos hz)
       rw [d9 hSS, hSS]
       show AV.tup [.one (.int .i64 ((p : Int) + 1)), .one (.bool (decide (((T.getD p nd0).2.2.1.length : Int) = 0)))] = _
       rw [decide_eq_true (by omega)]; rfl
     · have hNN := (dj (m := m) (f := f) hyes hx1).trans (if_neg hz)
       rw [gg hNN ⟨hyes, hx1⟩, hNN]
       show AV.tup [.one (.int .i64 ((p : Int) + 1)), .one (.bool (decide (((T.getD p nd0).2.2.1.length : Int) = 0)))] = _
       rw [decide_eq_false (by omega)]; rfl)
 (try simp only [zB, reduceCtorEq] at hc16)
 have hxa : 0 ≤ (T.getD p nd0).2.1 ∧ (T.getD p nd0).2.1 < m.inp := hc16
 refine ax ?_
 apply k13; clear k13; refine kp [0, 1, 2, 3, 5, 7, 8, 9, 10, 43, 51, 70] ?_
 refine ai fun _ k18 => ?_
 refine ak hP hN rfl ?_
 iterate 4 (refine aj rfl fun _ k0 => ?_; simp only [zO, zT, acs, reduceCtorEq, aa, V, ad, ag, af, ae, ah, aD, aR, aK, aI]; (repeat refine an ?_); (try refine .inl ?_); apply k0; clear k0; simp only [zP, V])
 refine aj rfl fun _ k0 => ?_
 refine aN (h := pC m x ini cur (T.getD p nd0).2.1 hm hs hxa h0 hl hil _ 0 rfl) rfl rfl (by first | exact rfl | (simp only [ev, zP, aa, V]; exact rfl)) (by simp only [zV, acs, reduceCtorEq, aa, V, ad, ag, af, ae, ah, aD, aR, aK, aI]) ?_
 apply k0; clear k0; simp only [zP, V]
 iterate 5 (refine aj rfl fun _ k0 => ?_; simp only [zO, zT, acs, reduceCtorEq, aa, V, ad, ag, af, ae, ah, aD, aR, aK, aI]; (repeat refine an ?_); (try refine .inl ?_); apply k0; clear k0; simp only [zP, V])
 refine am ?_
 apply k18; clear k18; refine kp [0, 1, 2, 3, 5, 7, 8, 9, 10, 11, 12, 43, 51, 70] ?_
 refine ai fun _ k19 => ?_
 refine ai fun _ k20 => ?_
 refine ak hP hN rfl ?_
 iterate 6 (refine aj rfl fun _ k0 => ?_; simp only [zO, zT, acs, reduceCtorEq, aa, V, ad, ag, af, ae, ah, aD, aR, aK, aI]; (repeat refine an ?_); (try refine .inl ?_); apply k0; clear k0; simp only [zP, V])
 refine am ?_
 apply k20; clear k20; refine kp [0, 1, 2, 3, 5, 7, 8, 9, 10, 11, 12, 43, 51, 70, 84] ?_
 refine cd (fun hc21 => ?_) (fun hc21 => ?_)
 ·(try simp only [zB, reduceCtorEq] at hc21)
  have hxb : ¬ (0 ≤ (T.getD p nd0).2.1 ∧ (T.getD p nd0).2.1 < m.inp ∧ (aC (ouL m cur (T.getD p nd0).2.1)).length = (T.getD p nd0).2.2.1.length) := by
    have h8 : ¬ (((aC (ouL m cur (T.getD p nd0).2.1)).length : Int) = ((T.getD p nd0).2.2.1.length : Int)) := hc21
    omega
  have hNN := om (f := f) (p := p) (ini := ini) hx1 hxb
  refine ai fun _ k22 => ?_
  refine ak hP hN rfl ?_
  iterate 2 (refine aj rfl fun _ k0 => ?_; simp only [zO, zT, acs, reduceCtorEq, aa, V, ad, ag, af, ae, ah, aD, aR, aK, aI]; (repeat refine an ?_); (try refine .inl ?_); apply k0; clear k0; simp only [zP, V])
  refine am ?_
  apply k22; clear k22; refine kp [0, 1, 2, 3, 5, 7, 8, 9, 10, 11, 12, 43, 51, 70, 84] ?_
  refine aB ?_
  refine ⟨by first | exact .inl rfl | exact .inr rfl, _, rfl, _, _, rfl, ?_, ?_⟩ <;> simp only [fzV, fz1, fzC, aF, bl, zP, aa, V, ah, aD, aR, aK, aI]
  all_goals first
  | (rw [j6 hNN hMM, hNN]; rfl)
  | (rw [d9 hSS, hSS]; rfl)
  | (by_cases hz : (T.getD p nd0).2.2.1.length = 0
     · have hSS := (dj (m := m) (f := f) hyes hx1).trans (if_pos hz)
       rw [d9 hSS, hSS]
       show AV.tup [.one (.int .i64 ((p : Int) + 1)), .one (.bool (decide (((T.getD p nd0).2.2.1.length : Int) = 0)))] = _
       rw [decide_eq_true (by omega)]; rfl
     · have hNN := (dj (m := m) (f := f) hyes hx1).trans (if_neg hz)
       rw [gg hNN ⟨hyes, hx1⟩, hNN]
       show AV.tup [.one (.int .i64 ((p : Int) + 1)), .one (.bool (decide (((T.getD p nd0).2.2.1.length : Int) = 0)))] = _
       rw [decide_eq_false (by omega)]; rfl)
 (try simp only [zB, reduceCtorEq] at hc21)
 have hxl : (aC (ouL m cur (T.getD p nd0).2.1)).length = (T.getD p nd0).2.2.1.length := by
   have h8 : ((aC (ouL m cur (T.getD p nd0).2.1)).length : Int) = ((T.getD p nd0).2.2.1.length : Int) := hc21
   omega
 have hkl := iH (ouL m cur (T.getD p nd0).2.1)
 have hol : (ouL m cur (T.getD p nd0).2.1).length = cur.length := az ..
 have hrf := mR (f := f) hyes hx1 ⟨hxa.1, hxa.2, hxl⟩
 refine ax ?_
 apply k19; clear k19; refine kp [0, 1, 2, 3, 5, 7, 8, 9, 10, 11, 12, 43, 51, 70, 84] ?_
 refine ai fun _ k23 => ?_
 refine ak hP hN rfl ?_
 iterate 3 (refine aj rfl fun _ k0 => ?_; simp only [zO, zT, acs, reduceCtorEq, aa, V, ad, ag, af, ae, ah, aD, aR, aK, aI]; (repeat refine an ?_); (try refine .inl ?_); apply k0; clear k0; simp only [zP, V])
 refine am ?_
 apply k23; clear k23; refine kp [0, 1, 2, 3, 5, 7, 8, 9, 10, 11, 12, 13, 43, 51, 70, 84] ?_
 refine ai fun _ k24 => ?_
 refine ai fun _ k25 => ?_
 refine ak hP hN rfl ?_
 iterate 4 (refine aj rfl fun _ k0 => ?_; simp only [zO, zT, acs, reduceCtorEq, aa, V, ad, ag, af, ae, ah, aD, aR, aK, aI]; (repeat refine an ?_); (try refine .inl ?_); apply k0; clear k0; simp only [zP, V])
 refine am ?_
 apply k25; clear k25; refine kp [0, 1, 2, 3, 5, 7, 8, 9, 10, 11, 12, 13, 43, 51, 70, 84, 88, 89, 90] ?_
 refine ay ?_
 refine bb (fun n26 s26 => ∃ (i e : Nat), (i ≤ (T.getD p nd0).2.2.1.length) ∧ ((List.range i).foldl (fm m (rtF m T f) ini cur (T.getD p nd0)) (some (p + 1)) = some e) ∧ (p + 1 ≤ e ∧ e ≤ T.length) ∧ n26 = (T.getD p nd0).2.2.1.length - i ∧ s26 = { env := [(0, .one (.ptr 0 0 0 0)), (5, .one (.ptr 1 0 0 0)), (8, .one (.int .i64 0)), (9, .one (.bool false)), (11, .one (.list (.int .i64) (aC (ouL m cur (T.getD p nd0).2.1)))), (12, .one (.list (.pair (.list (.int .i64)) (.pair (.list (.int .i64)) .unit)) (lX m ini cur (T.getD p nd0).2.1 (aC (ouL m cur (T.getD p nd0).2.1))))), (13, .one (.int .i64 (e : Int))), (88, .one (.list kdT (T.getD p nd0).2.2.1)), (89, .one (.int .i64 ((T.getD p nd0).2.2.1.length : Int))), (90, .one (.int .i64 (i : Int)))], L := [.vars 62 [.int .i64 m.inp, .int .i64 m.st, .list (.list (.int .i64)) m.nx, .list (.list (.int .i64)) m.ot, .exact x], .vars 29 [.list ndT T], .vars 66 [.list (.int .i64) ini, .list (.int .i64) cur], .vars 52 [.list (.int .i64) (T.getD p nd0).1, .int .i64 (T.getD p nd0).2.1, .list kdT (T.getD p nd0).2.2.1]] }) ?_ ?_
 ·exact ⟨_, _, aw [0, 5, 8, 9, 11, 12, 13, 88, 89, 90], 0, p + 1, Nat.zero_le _, rfl, ⟨by omega, by omega⟩, rfl, rfl⟩
 rintro n26 s26 ⟨i, e, hi, hD, he, rfl, rfl⟩
 refine ai fun _ k27 => ?_
 refine ak hP hN rfl ?_
 (refine aj rfl fun _ k0 => ?_; simp only [zO, zT, acs, reduceCtorEq, aa, V, ad, ag, af, ae, ah, aD, aR, aK, aI]; (repeat refine an ?_); (try refine .inl ?_); apply k0; clear k0; simp only [zP, V])
 refine am ?_
 apply k27; clear k27; refine kp [0, 5, 8, 9, 11, 12, 13, 88, 89, 90, 91] ?_
 refine ai fun _ k28 => ?_
 refine cd (fun hc29 => ?_) (fun hc29 => ?_)
 ·(try simp only [zB, reduceCtorEq] at hc29)
  have hil9 : (i : Int) < ((T.getD p nd0).2.2.1.length : Int) := hc29
  refine ax ?_
  apply k28; clear k28; refine kp [0, 5, 8, 9, 11, 12, 13, 88, 89, 90, 91] ?_
  refine ai fun _ k30 => ?_
  refine ay ?_
  refine ai fun _ k31 => ?_
  refine ak hP hN rfl ?_
  iterate 6 (refine aj rfl fun _ k0 => ?_; simp only [zO, zT, acs, reduceCtorEq, aa, V, ad, ag, af, ae, ah, aD, aR, aK, aI]; (repeat refine an ?_); (try refine .inl ?_); apply k0; clear k0; simp only [zP, V])
  refine am ?_
  apply k31; clear k31; refine kp [0, 5, 8, 9, 11, 12, 13, 14, 15, 88, 89, 90, 91] ?_
  refine ai fun _ k32 => ?_
  refine ai fun _ k33 => ?_
  refine bp hP hN Try.mixed rfl ?_
  iterate 8 (refine aj rfl fun _ k0 => ?_; simp only [zO, zT, acs, reduceCtorEq, aa, V, ad, ag, af, ae, ah, aD, aR, aK, aI]; (repeat refine an ?_); (try refine .inl ?_); apply k0; clear k0; simp only [zP, V])
  refine' aP (want := false) 4 rfl (m := 102) (by simp only [zP, aa, V]; exact rfl) (by kernel_rfl) rfl rfl rfl rfl rfl (fun hg34 => ?a34) ?b34 ?c34
  case a34 =>
   have hq34 := hg34; (try simp only [zB, reduceCtorEq] at hg34); simp only [zE]
   iterate 4 (refine bf rfl fun _ k0 => ?_; simp only [zO, zT, acs, reduceCtorEq, aa, V, ad, ag, af, ae, ah, aD, aR, aK, aI]; (repeat refine an ?_); (try refine .inl ?_); apply k0; clear k0; simp only [zP, V])
   (refine aj rfl fun _ k0 => ?_; simp only [zO, zT, acs, reduceCtorEq, aa, V, ad, ag, af, ae, ah, aD, aR, aK, aI]; (repeat refine an ?_); (try refine .inl ?_); apply k0; clear k0; simp only [zP, V])
   refine am ?_
   refine ⟨by simp only [zP, aa, V]; exact rfl, rfl, ?_, rfl⟩; (repeat refine aQ rfl ?_); exact bn (by exact rfl) hq34
  case b34 => exact cq
  simp only [b7, aT]
  refine am ?_
  refine ⟨by kernel_rfl, ?_⟩
  apply k33; clear k33; refine kp [0, 5, 8, 9, 11, 12, 13, 14, 15, 88, 89, 90, 91, 107] ?_
  refine cd (fun hc35 => ?_) (fun hc35 => ?_)
  ·(try simp only [zB, reduceCtorEq] at hc35)
   have hNN : rtF m T (f + 1) p ini cur = none := hrf.trans (qS (by omega) hD (uz (fun h => Or.elim hc35 (fun h9 => h9 h.1) (fun h9 => h9 h.2))))
   refine ai fun _ k36 => ?_
   refine ak hP hN rfl ?_
   iterate 2 (refine aj rfl fun _ k0 => ?_; simp only [zO, zT, acs, reduceCtorEq, aa, V, ad, ag, af, ae, ah, aD, aR, aK, aI]; (repeat refine an ?_); (try refine .inl ?_); apply k0; clear k0; simp only [zP, V])
   refine am ?_
   apply k36; clear k36; refine kp [0, 5, 8, 9, 11, 12, 13, 14, 15, 88, 89, 90, 91, 107] ?_
   refine aB ?_
   refine ⟨by first | exact .inl rfl | exact .inr rfl, _, rfl, _, _, rfl, ?_, ?_⟩ <;> simp only [fzV, fz1, fzC, aF, bl, zP, aa, V, ah, aD, aR, aK, aI]
   all_goals first
   | (rw [j6 hNN hMM, hNN]; rfl)
   | (rw [d9 hSS, hSS]; rfl)
   | (by_cases hz : (T.getD p nd0).2.2.1.length = 0
      · have hSS := (dj (m := m) (f := f) hyes hx1).trans (if_pos hz)
        rw [d9 hSS, hSS]
        show AV.tup [.one (.int .i64 ((p : Int) + 1)), .one (.bool (decide (((T.getD p nd0).2.2.1.length : Int) = 0)))] = _
        rw [decide_eq_true (by omega)]; rfl
      · have hNN := (dj (m := m) (f := f) hyes hx1).trans (if_neg hz)
        rw [gg hNN ⟨hyes, hx1⟩, hNN]
        show AV.tup [.one (.int .i64 ((p : Int) + 1)), .one (.bool (decide (((T.getD p nd0).2.2.1.length : Int) = 0)))] = _
        rw [decide_eq_false (by omega)]; rfl)
  (try simp only [zB, reduceCtorEq] at hc35)
  have hkk := m8 (m := m) (rec := rtF m T f) (ini := ini) (cur := cur) hc35
  refine ax ?_
  apply k32; clear k32; refine kp [0, 5, 8, 9, 11, 12, 13, 14, 15, 88, 89, 90, 91, 107] ?_
  refine ai fun _ k37 => ?_
  have hgi := rS (m := m) (ini := ini) (cur := cur) (a := (T.getD p nd0).2.1) (ks := (aC (ouL m cur (T.getD p nd0).2.1))) (i := i) (by omega)
  have hin : ((aC (ouL m cur (T.getD p nd0).2.1)).getD i 0) ∈ (aC (ouL m cur (T.getD p nd0).2.1)) := bm (by omega)
  have hq1 := mS hm (o := ((aC (ouL m cur (T.getD p nd0).2.1)).getD i 0)) hxa hs
  have hq2 := jj m ini cur (T.getD p nd0).2.1 ((aC (ouL m cur (T.getD p nd0).2.1)).getD i 0) cur.length
  have hq3 := lK hin
  have hq4 : (bB m cur (T.getD p nd0).2.1 cur.length ((aC (ouL m cur (T.getD p nd0).2.1)).getD i 0)).length ≤ 1000 := Nat.le_trans jN hl
  refine bp hP hN Try.mixed rfl ?_
  iterate 7 (refine aj rfl fun _ k0 => ?_; simp only [zO, zT, acs, reduceCtorEq, aa, V, ad, ag, af, ae, ah, aD, aR, aK, aI, hgi]; (repeat refine an ?_); (try refine .inl ?_); apply k0; clear k0; simp only [zP, V])
  refine aj rfl fun _ k0 => ?_
  refine aN (h := IH e (cm m ini cur (T.getD p nd0).2.1 cur.length ((aC (ouL m cur (T.getD p nd0).2.1)).getD i 0)) (bB m cur (T.getD p nd0).2.1 cur.length ((aC (ouL m cur (T.getD p nd0).2.1)).getD i 0)) x (by omega) (by omega) hq1 hq2 hq3 hq4 _ 0 rfl) rfl rfl (by first | exact rfl | (simp only [ev, zP, aa, V]; exact rfl)) (by simp only [zV, acs, reduceCtorEq, aa, V, ad, ag, af, ae, ah, aD, aR, aK, aI, hgi]) ?_
  apply k0; clear k0; simp only [zP, V]
  iterate 5 (refine aj rfl fun _ k0 => ?_; simp only [zO, zT, acs, reduceCtorEq, aa, V, ad, ag, af, ae, ah, aD, aR, aK, aI, hgi]; (repeat refine an ?_); (try refine .inl ?_); apply k0; clear k0; simp only [zP, V])
  refine am ?_
  refine ⟨by kernel_rfl, ?_⟩
  apply k37; clear k37; refine kp [0, 5, 8, 9, 11, 12, 13, 14, 15, 16, 17, 88, 89, 90, 91, 107] ?_
  refine ai fun _ k38 => ?_
  refine ai fun _ k39 => ?_
  refine ak hP hN rfl ?_
  iterate 2 (refine aj rfl fun _ k0 => ?_; simp only [zO, zT, acs, reduceCtorEq, aa, V, ad, ag, af, ae, ah, aD, aR, aK, aI]; (repeat refine an ?_); (try refine .inl ?_); apply k0; clear k0; simp only [zP, V])
  refine am ?_
  apply k39; clear k39; refine kp [0, 5, 8, 9, 11, 12, 13, 14, 15, 16, 17, 88, 89, 90, 91, 107, 120] ?_
  refine cd (fun hc40 => ?_) (fun hc40 => ?_)
  ·(try simp only [zB, reduceCtorEq] at hc40)
   have hno9 : rtF m T f e (cm m ini cur (T.getD p nd0).2.1 cur.length ((aC (ouL m cur (T.getD p nd0).2.1)).getD i 0)) (bB m cur (T.getD p nd0).2.1 cur.length ((aC (ouL m cur (T.getD p nd0).2.1)).getD i 0)) = none := by
     cases hr : rtF m T f e (cm m ini cur (T.getD p nd0).2.1 cur.length ((aC (ouL m cur (T.getD p nd0).2.1)).getD i 0)) (bB m cur (T.getD p nd0).2.1 cur.length ((aC (ouL m cur (T.getD p nd0).2.1)).getD i 0)) with
     | none => rfl
     | some n => rw [hr] at hc40; cases hc40
   have hNN : rtF m T (f + 1) p ini cur = none := hrf.trans (qS (by omega) hD (hkk.trans hno9))
   refine ai fun _ k41 => ?_
   refine ak hP hN rfl ?_
   iterate 2 (refine aj rfl fun _ k0 => ?_; simp only [zO, zT, acs, reduceCtorEq, aa, V, ad, ag, af, ae, ah, aD, aR, aK, aI]; (repeat refine an ?_); (try refine .inl ?_); apply k0; clear k0; simp only [zP, V])
   refine am ?_
   apply k41; clear k41; refine kp [0, 5, 8, 9, 11, 12, 13, 14, 15, 16, 17, 88, 89, 90, 91, 107, 120] ?_
   refine aB ?_
   refine ⟨by first | exact .inl rfl | exact .inr rfl, _, rfl, _, _, rfl, ?_, ?_⟩ <;> simp only [fzV, fz1, fzC, aF, bl, zP, aa, V, ah, aD, aR, aK, aI]
   all_goals first
   | (rw [j6 hNN hMM, hNN]; rfl)
   | (rw [d9 hSS, hSS]; rfl)
   | (by_cases hz : (T.getD p nd0).2.2.1.length = 0
      · have hSS := (dj (m := m) (f := f) hyes hx1).trans (if_pos hz)
        rw [d9 hSS, hSS]
        show AV.tup [.one (.int .i64 ((p : Int) + 1)), .one (.bool (decide (((T.getD p nd0).2.2.1.length : Int) = 0)))] = _
        rw [decide_eq_true (by omega)]; rfl
      · have hNN := (dj (m := m) (f := f) hyes hx1).trans (if_neg hz)
        rw [gg hNN ⟨hyes, hx1⟩, hNN]
        show AV.tup [.one (.int .i64 ((p : Int) + 1)), .one (.bool (decide (((T.getD p nd0).2.2.1.length : Int) = 0)))] = _
        rw [decide_eq_false (by omega)]; rfl)
  (try simp only [zB, reduceCtorEq] at hc40)
  obtain ⟨e2, he2⟩ : ∃ e2, rtF m T f e (cm m ini cur (T.getD p nd0).2.1 cur.length ((aC (ouL m cur (T.getD p nd0).2.1)).getD i 0)) (bB m cur (T.getD p nd0).2.1 cur.length ((aC (ouL m cur (T.getD p nd0).2.1)).getD i 0)) = some e2 := Option.isSome_iff_exists.1 hc40
  have he3 := iC he2
  refine ax ?_
  apply k38; clear k38; refine kp [0, 5, 8, 9, 11, 12, 13, 14, 15, 16, 17, 88, 89, 90, 91, 107, 120] ?_
  rw [d9 he2]
  refine ak hP hN rfl ?_
  iterate 2 (refine aj rfl fun _ k0 => ?_; simp only [zO, zT, acs, reduceCtorEq, aa, V, ad, ag, af, ae, ah, aD, aR, aK, aI]; (repeat refine an ?_); (try refine .inl ?_); apply k0; clear k0; simp only [zP, V])
  refine am ?_
  apply k30; clear k30; refine kp [0, 5, 8, 9, 11, 12, 13, 14, 15, 16, 17, 88, 89, 90, 91, 107, 120] ?_
  refine da [0, 5, 8, 9, 11, 12, 13, 88, 89, 90] ?_; simp only [cC, lkp, zE, reduceCtorEq, aa]
  refine ef (L1 := [_, _, _, _]) rfl (by rw [hB]; simp) rfl rfl ?_
  refine ak hP hN rfl ?_
  iterate 2 (refine aj rfl fun _ k0 => ?_; simp only [zO, zT, acs, reduceCtorEq, aa, V, ad, ag, af, ae, ah, aD, aR, aK, aI]; (repeat refine an ?_); (try refine .inl ?_); apply k0; clear k0; simp only [zP, V])
  refine am ?_
  refine ⟨_, _, ?_, aw [0, 5, 8, 9, 11, 12, 13, 88, 89, 90], i + 1, e2, by omega, pv hD (hkk.trans he2), ⟨by omega, by omega⟩, rfl, rfl⟩
  omega
 (try simp only [zB, reduceCtorEq] at hc29)
 have hil9 : ((T.getD p nd0).2.2.1.length : Int) ≤ (i : Int) := hc29
 have hie : (T.getD p nd0).2.2.1.length = i := by omega
 have hSS : rtF m T (f + 1) p ini cur = some e := by rw [hrf, hie]; exact hD
 refine aX ?_
 apply k24; clear k24; refine kp [0, 5, 8, 9, 11, 12, 13, 88, 89, 90, 91] ?_
 refine ai fun _ k42 => ?_
 refine ak hP hN rfl ?_
 iterate 3 (refine aj rfl fun _ k0 => ?_; simp only [zO, zT, acs, reduceCtorEq, aa, V, ad, ag, af, ae, ah, aD, aR, aK, aI]; (repeat refine an ?_); (try refine .inl ?_); apply k0; clear k0; simp only [zP, V])
 refine am ?_
 apply k42; clear k42; refine kp [0, 5, 8, 9, 11, 12, 13, 88, 89, 90, 91] ?_
 refine aB ?_
 refine ⟨by first | exact .inl rfl | exact .inr rfl, _, rfl, _, _, rfl, ?_, ?_⟩ <;> simp only [fzV, fz1, fzC, aF, bl, zP, aa, V, ah, aD, aR, aK, aI]
 all_goals first
 | (rw [j6 hNN hMM, hNN]; rfl)
 | (rw [d9 hSS, hSS]; rfl)
 | (by_cases hz : (T.getD p nd0).2.2.1.length = 0
    · have hSS := (dj (m := m) (f := f) hyes hx1).trans (if_pos hz)
      rw [d9 hSS, hSS]
      show AV.tup [.one (.int .i64 ((p : Int) + 1)), .one (.bool (decide (((T.getD p nd0).2.2.1.length : Int) = 0)))] = _
      rw [decide_eq_true (by omega)]; rfl
    · have hNN := (dj (m := m) (f := f) hyes hx1).trans (if_neg hz)
      rw [gg hNN ⟨hyes, hx1⟩, hNN]
      show AV.tup [.one (.int .i64 ((p : Int) + 1)), .one (.bool (decide (((T.getD p nd0).2.2.1.length : Int) = 0)))] = _
      rw [decide_eq_false (by omega)]; rfl)
theorem tO (m : Mly) (hm : MOK m) (T : List bc) (hT : T.length ≤ 4096) : ∀ (f p : Nat) (ini cur : List Int) (x : Value), T.length + 1 ≤ f + p → p ≤ T.length → cU m cur → ini.length = cur.length → 0 < cur.length → cur.length ≤ 1000 → ∀ (L0 : List AO) (m0 : Nat) (hm0 : L0[m0]? = some (.vars 62 [.int .i64 m.inp, .int .i64 m.st, .list (.list (.int .i64)) m.nx, .list (.list (.int .i64)) m.ot, .exact x])), er Try.prog L0 37 (List.map (mv1 m0) [.one (.ptr 0 0 0 0), .agg [.list ndT T], .one (.int .i64 (p : Int)), .agg [.list (.int .i64) ini, .list (.int .i64) cur]]) { av := .tup [.one (.int .i64 (rtP m T f p ini cur)), .one (.bool (rtF m T f p ini cur).isSome)], upd := [(m0, .vars 62 [.int .i64 m.inp, .int .i64 m.st, .list (.list (.int .i64)) m.nx, .list (.list (.int .i64)) m.ot, .exact x])], fp := [m0] }
  | 0, p, ini, cur, x, hf, hp, _, _, _, _ => by omega
  | f + 1, p, ini, cur, x, hf, hp, hs, hil, h0, hl => z8 f m hm T hT (tO m hm T hT f) p ini cur x hf hp hs hil h0 hl
theorem tQ (m : Mly) (T : List bc) : bZ Try.prog 16 [m.av, .agg [.list ndT T]] (.one (.int .i64 (fg m T))) := by
 refine aU Try.func16 rfl (by kernel_rfl) (Nat.le_of_ble_eq_true rfl) rfl fun C hP hN hB => ?_
 replace hN : C.N = 41 := hN
 simp only [bg, V]
 refine ai fun _ k1 => ?_
 refine ak hP hN rfl ?_
 iterate 3 (refine aj rfl fun _ k0 => ?_; simp only [zO, zT, acs, reduceCtorEq, aa, V, ad, ag, af, ae, Mly.av, bq]; (repeat refine an ?_); (try refine .inl ?_); apply k0; clear k0; simp only [zP, V])
 refine am ?_
 apply k1; clear k1; refine kp [0, 1, 2, 3, 4] ?_
 refine ai fun _ k2 => ?_
 refine ai fun _ k3 => ?_
 refine ak hP hN rfl ?_
 (refine aj rfl fun _ k0 => ?_; simp only [zO, zT, acs, reduceCtorEq, aa, V, ad, ag, af, ae, Mly.av, bq]; (repeat refine an ?_); (try refine .inl ?_); apply k0; clear k0; simp only [zP, V])
 refine aj rfl fun _ k0 => ?_
 refine aN (h := aA (qp m)) rfl rfl (by first | exact rfl | (simp only [ev, zP, aa, V]; exact rfl)) (by simp only [zV, acs, reduceCtorEq, aa, V, ad, ag, af, ae, Mly.av, bq]) ?_
 apply k0; clear k0; simp only [zP, V]
 (refine aj rfl fun _ k0 => ?_; simp only [zO, zT, acs, reduceCtorEq, aa, V, ad, ag, af, ae, Mly.av, bq]; (repeat refine an ?_); (try refine .inl ?_); apply k0; clear k0; simp only [zP, V])
 refine am ?_
 apply k3; clear k3; refine kp [0, 1, 2, 3, 4, 5] ?_
 refine ai fun _ k4 => ?_
 refine ak hP hN rfl ?_
 iterate 2 (refine aj rfl fun _ k0 => ?_; simp only [zO, zT, acs, reduceCtorEq, aa, V, ad, ag, af, ae, Mly.av, bq]; (repeat refine an ?_); (try refine .inl ?_); apply k0; clear k0; simp only [zP, V])
 refine am ?_
 apply k4; clear k4; refine kp [0, 1, 2, 3, 4, 5, 12] ?_
 refine cd (fun hc5 => ?_) (fun hc5 => ?_)
 ·(try simp only [zB, reduceCtorEq] at hc5)
  have hE : ¬ dE m = 0 := hc5
  refine ai fun _ k6 => ?_
  refine ak hP hN rfl ?_
  iterate 2 (refine aj rfl fun _ k0 => ?_; simp only [zO, zT, acs, reduceCtorEq, aa, V, ad, ag, af, ae, Mly.av, bq]; (repeat refine an ?_); (try refine .inl ?_); apply k0; clear k0; simp only [zP, V])
  refine am ?_
  apply k6; clear k6; refine kp [0, 1, 2, 3, 4, 5, 12] ?_
  refine aB ?_
  refine ⟨nr, _, rfl, ?_⟩; simp only [zF, zP, aa, V, Mly.av, bq]
  refine VLE.of_eq ?_
  refine congrArg (fun n => AV.one (AC.int IntKind.i64 n)) ?_
  unfold fg
  symm
  first
  | (rw [if_pos hE]; done)
  | (rw [if_neg (fun h => h hE), if_pos hR]; done)
  | (rw [if_neg (fun h => h hE), if_neg hR]; done)
 (try simp only [zB, reduceCtorEq] at hc5)
 have hE : dE m = 0 := by simpa using hc5
 have hm := fa (sw hE)
 have hn1 := hm.n1
 have hn2 := hm.n2
 refine ax ?_
 apply k2; clear k2; refine kp [0, 1, 2, 3, 4, 5, 12] ?_
 refine ai fun _ k7 => ?_
 refine ai fun _ k8 => ?_
 refine ak hP hN rfl ?_
 iterate 4 (refine aj rfl fun _ k0 => ?_; simp only [zO, zT, acs, reduceCtorEq, aa, V, ad, ag, af, ae, Mly.av, bq]; (repeat refine an ?_); (try refine .inl ?_); apply k0; clear k0; simp only [zP, V])
 refine am ?_
 apply k8; clear k8; refine kp [0, 1, 2, 3, 4, 5, 12, 17] ?_
 refine cd (fun hc9 => ?_) (fun hc9 => ?_)
 ·(try simp only [zB, reduceCtorEq] at hc9)
  have hR : 4096 < T.length ∨ ¬ rtF m T (T.length + 1) 0 (rgI m.nx.length) (rgI m.nx.length) = some T.length := .inl (by omega)
  refine ai fun _ k10 => ?_
  refine ak hP hN rfl ?_
  (refine aj rfl fun _ k0 => ?_; simp only [zO, zT, acs, reduceCtorEq, aa, V, ad, ag, af, ae, Mly.av, bq]; (repeat refine an ?_); (try refine .inl ?_); apply k0; clear k0; simp only [zP, V])
  refine am ?_
  apply k10; clear k10; refine kp [0, 1, 2, 3, 4, 5, 12, 17] ?_
  refine aB ?_
  refine ⟨nr, _, rfl, ?_⟩; simp only [zF, zP, aa, V, Mly.av, bq]
  refine VLE.of_eq ?_
  refine congrArg (fun n => AV.one (AC.int IntKind.i64 n)) ?_
  unfold fg
  symm
  first
  | (rw [if_pos hE]; done)
  | (rw [if_neg (fun h => h hE), if_pos hR]; done)
  | (rw [if_neg (fun h => h hE), if_neg hR]; done)
 (try simp only [zB, reduceCtorEq] at hc9)
 refine ax ?_
 apply k7; clear k7; refine kp [0, 1, 2, 3, 4, 5, 12, 17] ?_
 refine ai fun _ k11 => ?_
 refine ak hP hN rfl ?_
 iterate 4 (refine aj rfl fun _ k0 => ?_; simp only [zO, zT, acs, reduceCtorEq, aa, V, ad, ag, af, ae, Mly.av, bq]; (repeat refine an ?_); (try refine .inl ?_); apply k0; clear k0; simp only [zP, V])
 refine am ?_
 apply k11; clear k11; refine kp [0, 1, 2, 3, 4, 5, 6, 12, 17] ?_
 refine ai fun _ k12 => ?_
 refine bp hP hN Try.mixed rfl ?_
 iterate 3 (refine aj rfl fun _ k0 => ?_; simp only [zO, zT, acs, reduceCtorEq, aa, V, ad, ag, af, ae, Mly.av, bq]; (repeat refine an ?_); (try refine .inl ?_); apply k0; clear k0; simp only [zP, V])
 refine aj rfl fun _ k0 => ?_
 refine aN (h := aA (jh m (by omega))) rfl rfl (by first | exact rfl | (simp only [ev, zP, aa, V]; exact rfl)) (by simp only [zV, acs, reduceCtorEq, aa, V, ad, ag, af, ae, Mly.av, bq]) ?_
 apply k0; clear k0; simp only [zP, V]
 (refine aj rfl fun _ k0 => ?_; simp only [zO, zT, acs, reduceCtorEq, aa, V, ad, ag, af, ae, Mly.av, bq]; (repeat refine an ?_); (try refine .inl ?_); apply k0; clear k0; simp only [zP, V])
 refine aj rfl fun _ k0 => ?_
 refine aN (h := aA (jh m (by omega))) rfl rfl (by first | exact rfl | (simp only [ev, zP, aa, V]; exact rfl)) (by simp only [zV, acs, reduceCtorEq, aa, V, ad, ag, af, ae, Mly.av, bq]) ?_
 apply k0; clear k0; simp only [zP, V]
 (refine aj rfl fun _ k0 => ?_; simp only [zO, zT, acs, reduceCtorEq, aa, V, ad, ag, af, ae, Mly.av, bq]; (repeat refine an ?_); (try refine .inl ?_); apply k0; clear k0; simp only [zP, V])
 refine aj rfl fun _ k0 => ?_
 refine aN (h := jl (k := 2) (T := 62) (cs := [.int .i64 m.inp, .int .i64 m.st, .list (.list (.int .i64)) m.nx, .list (.list (.int .i64)) m.ot]) (c := .nils) rfl (by simp) (fun x => tO m hm T (by omega) (T.length + 1) 0 (rgI m.nx.length) (rgI m.nx.length) x (by omega) (by omega) (lN m) rfl (by rw [db]; omega) (by rw [db]; omega) _ 2 rfl)) rfl rfl (by first | exact rfl | (simp only [ev, zP, aa, V]; exact rfl)) (by simp only [zV, acs, reduceCtorEq, aa, V, ad, ag, af, ae, Mly.av, bq]) ?_
 apply k0; clear k0; simp only [zP, V]
 iterate 5 (refine aj rfl fun _ k0 => ?_; simp only [zO, zT, acs, reduceCtorEq, aa, V, ad, ag, af, ae, Mly.av, bq]; (repeat refine an ?_); (try refine .inl ?_); apply k0; clear k0; simp only [zP, V])
 refine am ?_
 refine ⟨by kernel_rfl, ?_⟩
 apply k12; clear k12; refine kp [0, 1, 2, 3, 4, 5, 6, 7, 8, 12, 17] ?_
 refine ai fun _ k13 => ?_
 refine ai fun _ k14 => ?_
 refine ak hP hN rfl ?_
 iterate 3 (refine aj rfl fun _ k0 => ?_; simp only [zO, zT, acs, reduceCtorEq, aa, V, ad, ag, af, ae, Mly.av, bq]; (repeat refine an ?_); (try refine .inl ?_); apply k0; clear k0; simp only [zP, V])
 refine' aP (want := false) 5 rfl (m := 34) (by simp only [zP, aa, V]; exact rfl) (by kernel_rfl) rfl rfl rfl rfl rfl (fun hg15 => ?a15) ?b15 ?c15
 case a15 =>
  have hq15 := hg15; (try simp only [zB, reduceCtorEq] at hg15); simp only [zE]
  iterate 5 (refine bf rfl fun _ k0 => ?_; simp only [zO, zT, acs, reduceCtorEq, aa, V, ad, ag, af, ae, Mly.av, bq]; (repeat refine an ?_); (try refine .inl ?_); apply k0; clear k0; simp only [zP, V])
  (refine aj rfl fun _ k0 => ?_; simp only [zO, zT, acs, reduceCtorEq, aa, V, ad, ag, af, ae, Mly.av, bq]; (repeat refine an ?_); (try refine .inl ?_); apply k0; clear k0; simp only [zP, V])
  refine am ?_
  refine ⟨by simp only [zP, aa, V]; exact rfl, rfl, ?_, rfl⟩; (repeat refine aQ rfl ?_); exact bn (by exact rfl) hq15
 case b15 => exact cq
 simp only [b7, aT]
 refine am ?_
 apply k14; clear k14; refine kp [0, 1, 2, 3, 4, 5, 6, 7, 8, 12, 17, 40] ?_
 refine cd (fun hc16 => ?_) (fun hc16 => ?_)
 ·(try simp only [zB, reduceCtorEq] at hc16)
  have hR : 4096 < T.length ∨ ¬ rtF m T (T.length + 1) 0 (rgI m.nx.length) (rgI m.nx.length) = some T.length := .inr (Ae hc16)
  refine ai fun _ k17 => ?_
  refine ak hP hN rfl ?_
  (refine aj rfl fun _ k0 => ?_; simp only [zO, zT, acs, reduceCtorEq, aa, V, ad, ag, af, ae, Mly.av, bq]; (repeat refine an ?_); (try refine .inl ?_); apply k0; clear k0; simp only [zP, V])
  refine am ?_
  apply k17; clear k17; refine kp [0, 1, 2, 3, 4, 5, 6, 7, 8, 12, 17, 40] ?_
  refine aB ?_
  refine ⟨nr, _, rfl, ?_⟩; simp only [zF, zP, aa, V, Mly.av, bq]
  refine VLE.of_eq ?_
  refine congrArg (fun n => AV.one (AC.int IntKind.i64 n)) ?_
  unfold fg
  symm
  first
  | (rw [if_pos hE]; done)
  | (rw [if_neg (fun h => h hE), if_pos hR]; done)
  | (rw [if_neg (fun h => h hE), if_neg hR]; done)
 (try simp only [zB, reduceCtorEq] at hc16)
 have hR : ¬ (4096 < T.length ∨ ¬ rtF m T (T.length + 1) 0 (rgI m.nx.length) (rgI m.nx.length) = some T.length) := fun h => Or.elim h (fun h9 => by omega) (fun h9 => h9 (yc hc16))
 refine ax ?_
 apply k13; clear k13; refine kp [0, 1, 2, 3, 4, 5, 6, 7, 8, 12, 17, 40] ?_
 refine ai fun _ k18 => ?_
 refine ak hP hN rfl ?_
 (refine aj rfl fun _ k0 => ?_; simp only [zO, zT, acs, reduceCtorEq, aa, V, ad, ag, af, ae, Mly.av, bq]; (repeat refine an ?_); (try refine .inl ?_); apply k0; clear k0; simp only [zP, V])
 refine am ?_
 apply k18; clear k18; refine kp [0, 1, 2, 3, 4, 5, 6, 7, 8, 12, 17, 40] ?_
 refine aB ?_
 refine ⟨nr, _, rfl, ?_⟩; simp only [zF, zP, aa, V, Mly.av, bq]
 refine VLE.of_eq ?_
 refine congrArg (fun n => AV.one (AC.int IntKind.i64 n)) ?_
 unfold fg
 symm
 first
 | (rw [if_pos hE]; done)
 | (rw [if_neg (fun h => h hE), if_pos hR]; done)
 | (rw [if_neg (fun h => h hE), if_neg hR]; done)
theorem v5 : bZ Try.prog 11 [.agg [.int .i64 0, .int .i64 0, .nils, .nils]] (.tup [.agg [.list ndT (gM z12)], .one (.bool (iP z12)), .one (.int .i64 (di z12))]) :=
  lQ (mM z12) ⟨uO ⟨.refl _, .refl _, bz rfl, bz rfl, trivial⟩, trivial⟩
theorem yw : bZ Try.prog 16 [dU.av, .agg [.nils]] (.one (.int .i64 (fg dU []))) :=
  lQ (tQ dU []) ⟨VLE.of_eq rfl, uO ⟨bz rfl, trivial⟩, trivial⟩
theorem zM (T : List bc) (hT : T.length ≤ 4096) (hK : ∀ x ∈ T, x.2.2.1.length ≤ 1000000) : bZ Try.prog 20 [.agg [.list ndT T]] (.one (.int .i64 (dpT T))) := by
 refine aU Try.func20 rfl (by kernel_rfl) (Nat.le_of_ble_eq_true rfl) rfl fun C hP hN hB => ?_
 replace hN : C.N = 61 := hN
 simp only [bg, V]
 refine ai fun _ k1 => ?_
 refine ak hP hN rfl ?_
 iterate 2 (refine aj rfl fun _ k0 => ?_; simp only [zO, zT, acs, reduceCtorEq, aa, V, ad, ag, af, ae, ah, aD, aR, aK, dh]; (repeat refine an ?_); (try refine .inl ?_); apply k0; clear k0; simp only [zP, V])
 refine am ?_
 apply k1; clear k1; refine kp [0, 1, 2] ?_
 refine ai fun _ k2 => ?_
 refine ak hP hN rfl ?_
 iterate 4 (refine aj rfl fun _ k0 => ?_; simp only [zO, zT, acs, reduceCtorEq, aa, V, ad, ag, af, ae, ah, aD, aR, aK, dh]; (repeat refine an ?_); (try refine .inl ?_); apply k0; clear k0; simp only [zP, V])
 (refine aj rfl fun _ k0 => ?_; simp only [zE, op1, ev, lkp, d5, bQ, bM, d4, Nat.mul_one, bS, cI, acs, Ty.dflt, zG, bY, cr, fo, ew, cK, d7, eE, Nat.div_one, cR, df, Ty.size, br, dite_true, iV, cT, fA, gP, eT, gz, cQ, reduceCtorEq, aa, V, ad, ag, af, ae, Try.el27, Try.el41, Try.st29, Try.td27, Try.td29, Try.td3, Try.td41, ah, aD, aR, aK, dh]; (repeat refine an ?_); (try refine .inl ?_); apply k0; clear k0; simp only [zP, V])
 (refine aj rfl fun _ k0 => ?_; simp only [zO, zT, acs, reduceCtorEq, aa, V, ad, ag, af, ae, ah, aD, aR, aK, dh]; (repeat refine an ?_); (try refine .inl ?_); apply k0; clear k0; simp only [zP, V])
 refine am ?_
 apply k2; clear k2; refine kp [0, 1, 2, 3] ?_
 refine ai fun _ k3 => ?_
 refine ai fun _ k4 => ?_
 refine ak hP hN rfl ?_
 iterate 5 (refine aj rfl fun _ k0 => ?_; simp only [zO, zT, acs, reduceCtorEq, aa, V, ad, ag, af, ae, ah, aD, aR, aK, dh]; (repeat refine an ?_); (try refine .inl ?_); apply k0; clear k0; simp only [zP, V])
 refine am ?_
 apply k4; clear k4; refine kp [0, 1, 2, 3, 4] ?_
 refine ay ?_
 refine bb (fun n5 s5 => ∃ (k : Nat), (k ≤ T.length) ∧ n5 = k + 1 ∧ s5 = { env := [(1, .one (.ptr 0 0 0 0)), (2, .one (.int .i64 0)), (3, .one (.row 1 0)), (4, .one (.int .i64 ((k : Int) - 1)))], L := [.vars 29 [.list ndT T], .row (.int .i64) 3 0 (dpL T k (if k = T.length then 0 else dpA T k))] }) ?_ ?_
 ·refine ⟨_, _, aw [1, 2, 3, 4], T.length, Nat.le_refl _, rfl, ?_⟩
  rw [if_pos rfl, zm]; rfl
 rintro n5 s5 ⟨k, hk, rfl, rfl⟩
 refine ai fun _ k6 => ?_
 refine ai fun _ k7 => ?_
 refine ak hP hN rfl ?_
 iterate 2 (refine aj rfl fun _ k0 => ?_; simp only [zO, zT, acs, reduceCtorEq, aa, V, ad, ag, af, ae, ah, aD, aR, aK, dh]; (repeat refine an ?_); (try refine .inl ?_); apply k0; clear k0; simp only [zP, V])
 refine am ?_
 apply k7; clear k7; refine kp [1, 2, 3, 4, 17] ?_
 refine cd (fun hc8 => ?_) (fun hc8 => ?_)
 ·(try simp only [zB, reduceCtorEq] at hc8)
  refine ax ?_
  apply k6; clear k6; refine kp [1, 2, 3, 4, 17] ?_
  refine ai fun _ k9 => ?_
  refine ay ?_
  refine ai fun _ k10 => ?_
  obtain ⟨p, rfl⟩ : ∃ p, k = p + 1 := ⟨k - 1, by omega⟩
  rw [show (((p + 1 : Nat) : Int) - 1) = (p : Int) by omega, xo hk]
  have hp : p < T.length := by omega
  have hkm : (T.getD p nd0) ∈ T := by simp [List.getD, hp]
  have hkl := hK _ hkm
  refine ak hP hN rfl ?_
  iterate 8 (refine aj rfl fun _ k0 => ?_; simp only [zO, zT, acs, reduceCtorEq, aa, V, ad, ag, af, ae, ah, aD, aR, aK, dh]; (repeat refine an ?_); (try refine .inl ?_); apply k0; clear k0; simp only [zP, V])
  refine am ?_
  apply k10; clear k10; refine kp [1, 2, 3, 4, 17, 25, 26, 27] ?_
  refine ay ?_
  refine bb (fun n11 s11 => ∃ (i : Nat), (i ≤ (T.getD p nd0).2.2.1.length) ∧ n11 = (T.getD p nd0).2.2.1.length - i ∧ s11 = { env := [(1, .one (.ptr 0 0 0 0)), (2, .one (.int .i64 0)), (3, .one (.row 1 0)), (4, .one (.int .i64 (p : Int))), (17, .one (.bool true)), (25, .one (.list kdT (T.getD p nd0).2.2.1)), (26, .one (.int .i64 ((T.getD p nd0).2.2.1.length : Int))), (27, .one (.int .i64 (i : Int)))], L := [.vars 29 [.list ndT T], .row (.int .i64) 3 0 (dpL T p (((T.getD p nd0).2.2.1.take i).foldl (eR T (dpA T) p) 0))] }) ?_ ?_
  ·refine ⟨_, _, aw [1, 2, 3, 4, 17, 25, 26, 27], 0, Nat.zero_le _, rfl, ?_⟩
   rw [decide_eq_true (show (0 : Int) ≤ (p : Int) by omega)]; rfl
  rintro n11 s11 ⟨i, hi, rfl, rfl⟩
  refine ai fun _ k12 => ?_
  refine ak hP hN rfl ?_
  (refine aj rfl fun _ k0 => ?_; simp only [zO, zT, acs, reduceCtorEq, aa, V, ad, ag, af, ae, ah, aD, aR, aK, dh]; (repeat refine an ?_); (try refine .inl ?_); apply k0; clear k0; simp only [zP, V])
  refine am ?_
  apply k12; clear k12; refine kp [1, 2, 3, 4, 17, 25, 26, 27, 28] ?_
  refine ai fun _ k13 => ?_
  refine cd (fun hc14 => ?_) (fun hc14 => ?_)
  ·(try simp only [zB, reduceCtorEq] at hc14)
   have hil9 : i < (T.getD p nd0).2.2.1.length := by have h9 : (i : Int) < ((T.getD p nd0).2.2.1.length : Int) := hc14; omega
   refine ax ?_
   apply k13; clear k13; refine kp [1, 2, 3, 4, 17, 25, 26, 27, 28] ?_
   refine ai fun _ k15 => ?_
   refine ay ?_
   refine ai fun _ k16 => ?_
   have hil : i < (T.getD p nd0).2.2.1.length := hil9
   refine ak hP hN rfl ?_
   iterate 4 (refine aj rfl fun _ k0 => ?_; simp only [zO, zT, acs, reduceCtorEq, aa, V, ad, ag, af, ae, ah, aD, aR, aK, dh]; (repeat refine an ?_); (try refine .inl ?_); apply k0; clear k0; simp only [zP, V])
   refine am ?_
   apply k16; clear k16; refine kp [1, 2, 3, 4, 6, 17, 25, 26, 27, 28] ?_
   refine ai fun _ k17 => ?_
   have hdt := yx (T := T) (r := dpA T) (p := p) hil
   have hr9 := mA (r := dpA T) hp (fun k hk hl => tZ hl) ((T.getD p nd0).2.2.1.take i) 0 ⟨Int.le_refl _, by omega⟩
   refine ak hP hN rfl ?_
   iterate 5 (refine aj rfl fun _ k0 => ?_; simp only [zO, zT, acs, reduceCtorEq, aa, V, ad, ag, af, ae, ah, aD, aR, aK, dh]; (repeat refine an ?_); (try refine .inl ?_); apply k0; clear k0; simp only [zP, V])
   refine' aP (want := true) 6 rfl (m := 35) (by simp only [zP, aa, V]; exact rfl) (by kernel_rfl) rfl rfl rfl rfl rfl (fun hg18 => ?a18) ?b18 ?c18
   case a18 =>
    have hq18 := hg18; (try simp only [zB, reduceCtorEq] at hg18); simp only [zE]
    iterate 6 (refine bf rfl fun _ k0 => ?_; simp only [zO, zT, acs, reduceCtorEq, aa, V, ad, ag, af, ae, ah, aD, aR, aK, dh]; (repeat refine an ?_); (try refine .inl ?_); apply k0; clear k0; simp only [zP, V])
    (refine aj rfl fun _ k0 => ?_; simp only [zO, zT, acs, reduceCtorEq, aa, V, ad, ag, af, ae, ah, aD, aR, aK, dh]; (repeat refine an ?_); (try refine .inl ?_); apply k0; clear k0; simp only [zP, V])
    refine am ?_
    refine ⟨by simp only [zP, aa, V]; exact rfl, rfl, ?_, rfl⟩; (repeat refine aQ rfl ?_); exact bn (by exact rfl) hq18
   case b18 => exact cq
   simp only [b7, aT]
   refine am ?_
   apply k17; clear k17; refine kp [1, 2, 3, 4, 6, 17, 25, 26, 27, 28, 42] ?_
   refine cd (fun hc19 => ?_) (fun hc19 => ?_)
   ·(try simp only [zB, reduceCtorEq] at hc19)
    have hkc := hc19
    have hkr : (p : Int) < ((T.getD p nd0).2.2.1.getD i kd0).2.1 ∧ ((T.getD p nd0).2.2.1.getD i kd0).2.1 < (T.length : Int) := hkc
    have hg0 : (dpL T p (((T.getD p nd0).2.2.1.take i).foldl (eR T (dpA T) p) 0)).getD p 0 = (((T.getD p nd0).2.2.1.take i).foldl (eR T (dpA T) p) 0) := oZ (by omega) _
    have hg1 : (dpL T p (((T.getD p nd0).2.2.1.take i).foldl (eR T (dpA T) p) 0)).getD ((T.getD p nd0).2.2.1.getD i kd0).2.1.toNat 0 = dpA T ((T.getD p nd0).2.2.1.getD i kd0).2.1.toNat := Ax (by omega) (by omega) _
    have hr8 := tZ (T := T) (p := ((T.getD p nd0).2.2.1.getD i kd0).2.1.toNat) (by omega)
    have hst := zd (T := T) (p := p) (by omega) (((T.getD p nd0).2.2.1.take i).foldl (eR T (dpA T) p) 0) (max (((T.getD p nd0).2.2.1.take i).foldl (eR T (dpA T) p) 0) (1 + dpA T ((T.getD p nd0).2.2.1.getD i kd0).2.1.toNat))
    refine bp hP hN Try.mixed rfl ?_
    iterate 15 (refine aj rfl fun _ k0 => ?_; simp only [zO, zT, acs, reduceCtorEq, aa, V, ad, ag, af, ae, ah, aD, aR, aK, dh, hg0, hg1]; (repeat refine an ?_); (try refine .inl ?_); apply k0; clear k0; simp only [zP, V, hst])
    refine am ?_
    refine ⟨by kernel_rfl, ?_⟩
    apply k15; clear k15; refine kp [1, 2, 3, 4, 6, 17, 25, 26, 27, 28, 42] ?_
    refine da [1, 2, 3, 4, 17, 25, 26, 27] ?_; simp only [cC, lkp, zE, reduceCtorEq, aa]
    refine lC (L1 := [_, _]) rfl hB rfl rfl ?_
    refine ak hP hN rfl ?_
    iterate 2 (refine aj rfl fun _ k0 => ?_; simp only [zO, zT, acs, reduceCtorEq, aa, V, ad, ag, af, ae, ah, aD, aR, aK, dh]; (repeat refine an ?_); (try refine .inl ?_); apply k0; clear k0; simp only [zP, V])
    refine am ?_
    first
    | (refine ⟨_, _, ?_, aw [1, 2, 3, 4, 17, 25, 26, 27], i + 1, by omega, rfl, ?_⟩
       · omega
       · rw [hdt]; unfold eR; rw [if_pos hkr]; all_goals rfl)
    | (refine ⟨_, _, ?_, aw [1, 2, 3, 4, 17, 25, 26, 27], i + 1, by omega, rfl, ?_⟩
       · omega
       · rw [hdt]; unfold eR; rw [if_neg hkc]; all_goals rfl)
   (try simp only [zB, reduceCtorEq] at hc19)
   have hkc : ¬ ((p : Int) < ((T.getD p nd0).2.2.1.getD i kd0).2.1 ∧ ((T.getD p nd0).2.2.1.getD i kd0).2.1 < (T.length : Int)) := by
     have h8 : ((T.getD p nd0).2.2.1.getD i kd0).2.1 ≤ (p : Int) ∨ (T.length : Int) ≤ ((T.getD p nd0).2.2.1.getD i kd0).2.1 := hc19
     omega
   refine ax ?_
   apply k15; clear k15; refine kp [1, 2, 3, 4, 6, 17, 25, 26, 27, 28, 42] ?_
   refine da [1, 2, 3, 4, 17, 25, 26, 27] ?_; simp only [cC, lkp, zE, reduceCtorEq, aa]
   refine lC (L1 := [_, _]) rfl hB rfl rfl ?_
   refine ak hP hN rfl ?_
   iterate 2 (refine aj rfl fun _ k0 => ?_; simp only [zO, zT, acs, reduceCtorEq, aa, V, ad, ag, af, ae, ah, aD, aR, aK, dh]; (repeat refine an ?_); (try refine .inl ?_); apply k0; clear k0; simp only [zP, V])
   refine am ?_
   first
   | (refine ⟨_, _, ?_, aw [1, 2, 3, 4, 17, 25, 26, 27], i + 1, by omega, rfl, ?_⟩
      · omega
      · rw [hdt]; unfold eR; rw [if_pos hkr]; all_goals rfl)
   | (refine ⟨_, _, ?_, aw [1, 2, 3, 4, 17, 25, 26, 27], i + 1, by omega, rfl, ?_⟩
      · omega
      · rw [hdt]; unfold eR; rw [if_neg hkc]; all_goals rfl)
  (try simp only [zB, reduceCtorEq] at hc14)
  have hie : (T.getD p nd0).2.2.1.length ≤ i := by have h9 : ((T.getD p nd0).2.2.1.length : Int) ≤ (i : Int) := hc14; omega
  refine aX ?_
  apply k9; clear k9; refine kp [1, 2, 3, 4, 17, 25, 26, 27, 28] ?_
  refine ak hP hN rfl ?_
  iterate 3 (refine aj rfl fun _ k0 => ?_; simp only [zO, zT, acs, reduceCtorEq, aa, V, ad, ag, af, ae, ah, aD, aR, aK, dh]; (repeat refine an ?_); (try refine .inl ?_); apply k0; clear k0; simp only [zP, V])
  refine am ?_
  refine ⟨_, _, ?_, aw [1, 2, 3, 4], p, by omega, rfl, ?_⟩
  · omega
  · rw [if_neg (by omega), Al hp, List.take_of_length_le hie]; all_goals rfl
 (try simp only [zB, reduceCtorEq] at hc8)
 refine aX ?_
 apply k3; clear k3; refine kp [1, 2, 3, 4, 17] ?_
 refine ai fun _ k20 => ?_
 refine ak hP hN rfl ?_
 iterate 4 (refine aj rfl fun _ k0 => ?_; simp only [zO, zT, acs, reduceCtorEq, aa, V, ad, ag, af, ae, ah, aD, aR, aK, dh]; (repeat refine an ?_); (try refine .inl ?_); apply k0; clear k0; simp only [zP, V])
 refine am ?_
 apply k20; clear k20; refine kp [1, 2, 3, 4, 17] ?_
 refine aB ?_
 refine ⟨nr, _, rfl, ?_⟩; simp only [zF, zP, aa, V, ah, aD, aR, aK, dh]
 refine VLE.of_eq ?_
 refine congrArg (fun n => AV.one (AC.int IntKind.i64 n)) ?_
 have hk0 : k = 0 := by omega
 subst hk0
 unfold dpT
 symm
 by_cases e : T.length = 0
 · rw [if_pos e, if_pos (by omega)]; exact (oZ (by omega) 0).symm
 · rw [if_neg e, if_neg (by omega)]; exact (oZ (by omega) _).symm
theorem wQ (m : Mly) (T : List bc) (W : List Int) (v : Nat) (s a : Int) (hm : MOK m) (hs : 0 ≤ s ∧ s < m.nx.length) (ha : 0 ≤ a ∧ a < m.inp) (k : dR) : er Try.prog [.vars 24 [.int .i64 m.inp, .int .i64 m.st, .list (.list (.int .i64)) m.nx, .list (.list (.int .i64)) m.ot], .vars 29 [.list ndT T], .vars 3 [.int .i64 s], .row (.int .i64) 3 v W, .vars 3 [.int .i64 a]] 42 [.agg [.int .i64 k.1, .int .i64 k.2.1], .one (.ptr 0 0 0 0), .one (.ptr 2 0 0 0), .one (.ptr 4 0 0 0)] { av := .one (.bool (decide (k.1 = m.out s a))), fp := [0, 1, 2, 3, 4] } := by
 have ol := hm.ol
 have q2 := hm.ql s.toNat (by omega)
 refine mw _ _ Try.func42 rfl (by kernel_rfl) (Nat.le_of_ble_eq_true rfl) (by intro k hk; simp only [au, aE, Nat.zero_add, V] at hk; simp only [List.mem_cons, List.not_mem_nil, or_false]; omega) (fun C hP hN hB => ?_)
 replace hB : C.bL.length = 5 := by rw [hB]; rfl
 replace hN : C.N = 17 := hN
 simp only [bg, V]
 refine ai fun _ k1 => ?_
 refine ak hP hN rfl ?_
 iterate 2 (refine aj rfl fun _ k0 => ?_; simp only [zO, zT, acs, reduceCtorEq, aa, V, ad, ag, af, ae, ah]; (repeat refine an ?_); (try refine .inl ?_); apply k0; clear k0; simp only [zP, V])
 refine am ?_
 apply k1; clear k1; refine kp [0, 1, 2, 3, 4, 5] ?_
 refine ai fun _ k2 => ?_
 refine bp hP hN Try.mixed rfl ?_
 iterate 12 (refine aj rfl fun _ k0 => ?_; simp only [zO, zT, acs, reduceCtorEq, aa, V, ad, ag, af, ae, ah]; (repeat refine an ?_); (try refine .inl ?_); apply k0; clear k0; simp only [zP, V])
 refine am ?_
 refine ⟨by kernel_rfl, ?_⟩
 apply k2; clear k2; refine kp [0, 1, 2, 3, 4, 5] ?_
 refine da [5] ?_; simp only [cC, lkp, zE, reduceCtorEq, aa]
 refine ef (L1 := [_, _, _, _, _]) rfl (by rw [hB]; exact Nat.le_refl _) rfl rfl ?_
 refine aB ?_
 refine ⟨by first | exact .inl rfl | exact .inr rfl, _, rfl, ?_⟩; simp only [zP, aa, V, ah]
 first | exact ⟨rfl, rfl⟩ | rfl
theorem y8 (m : Mly) (T : List bc) (W : List Int) (v : Nat) (s a : Int) (hm : MOK m) (hs : 0 ≤ s ∧ s < m.nx.length) (ha : 0 ≤ a ∧ a < m.inp) (K : List dR) (i0 : Nat) (hK : K.length ≤ 1000000) (hi0 : i0 < K.length) (hk0 : (K.getD i0 kd0).1 = m.out s a) (hku : ∀ j, j < K.length → (K.getD j kd0).1 = m.out s a → j = i0) : er Try.prog [.vars 24 [.int .i64 m.inp, .int .i64 m.st, .list (.list (.int .i64)) m.nx, .list (.list (.int .i64)) m.ot], .vars 29 [.list ndT T], .vars 3 [.int .i64 s], .row (.int .i64) 3 v W, .vars 3 [.int .i64 a]] 41 [.one (.list kdT K), .one (.fn 42 [.ref 0, .ref 2, .ref 4])] { av := .one (.int .i64 (i0 : Int)), fp := [0, 1, 2, 3, 4] } := by
 refine mw _ _ Try.func41 rfl (by kernel_rfl) (Nat.le_of_ble_eq_true rfl) (by intro k hk; simp only [au, aE, Nat.zero_add, V] at hk; simp only [List.mem_cons, List.not_mem_nil, or_false]; omega) (fun C hP hN hB => ?_)
 replace hB : C.bL.length = 5 := by rw [hB]; rfl
 replace hN : C.N = 19 := hN
 simp only [bg, V]
 refine ai fun _ k1 => ?_
 refine ak hP hN rfl ?_
 (refine aj rfl fun _ k0 => ?_; simp only [zO, zT, acs, reduceCtorEq, aa, V, ad, ag, af, ae, ah, aD, aK]; (repeat refine an ?_); (try refine .inl ?_); apply k0; clear k0; simp only [zP, V])
 refine am ?_
 apply k1; clear k1; refine kp [0, 1, 4] ?_
 refine ai fun _ k2 => ?_
 refine ai fun _ k3 => ?_
 refine ak hP hN rfl ?_
 iterate 3 (refine aj rfl fun _ k0 => ?_; simp only [zO, zT, acs, reduceCtorEq, aa, V, ad, ag, af, ae, ah, aD, aK]; (repeat refine an ?_); (try refine .inl ?_); apply k0; clear k0; simp only [zP, V])
 refine am ?_
 apply k3; clear k3; refine kp [0, 1, 4, 7, 8] ?_
 refine ay ?_
 refine bb (fun n4 s4 => ∃ (i : Nat), (i ≤ K.length) ∧ (∀ j, j < i → ¬ (K.getD j kd0).1 = m.out s a) ∧ n4 = K.length - i ∧ s4 = { env := [(0, .one (.list kdT K)), (1, .one (.fn 42 [.ref 0, .ref 2, .ref 4])), (4, .one (.int .i64 0)), (7, .one (.int .i64 (K.length : Int))), (8, .one (.int .i64 (i : Int)))], L := [.vars 24 [.int .i64 m.inp, .int .i64 m.st, .list (.list (.int .i64)) m.nx, .list (.list (.int .i64)) m.ot], .vars 29 [.list ndT T], .vars 3 [.int .i64 s], .row (.int .i64) 3 v W, .vars 3 [.int .i64 a]] }) ?_ ?_
 ·exact ⟨_, _, aw [0, 1, 4, 7, 8], 0, Nat.zero_le _, fun j h => by omega, rfl, rfl⟩
 rintro n4 s4 ⟨i, hi, hnu, rfl, rfl⟩
 refine ai fun _ k5 => ?_
 refine ak hP hN rfl ?_
 (refine aj rfl fun _ k0 => ?_; simp only [zO, zT, acs, reduceCtorEq, aa, V, ad, ag, af, ae, ah, aD, aK]; (repeat refine an ?_); (try refine .inl ?_); apply k0; clear k0; simp only [zP, V])
 refine am ?_
 apply k5; clear k5; refine kp [0, 1, 4, 7, 8, 9] ?_
 refine ai fun _ k6 => ?_
 refine cd (fun hc7 => ?_) (fun hc7 => ?_)
 ·(try simp only [zB, reduceCtorEq] at hc7)
  refine ax ?_
  apply k6; clear k6; refine kp [0, 1, 4, 7, 8, 9] ?_
  refine ai fun _ k8 => ?_
  refine ay ?_
  refine ai fun _ k9 => ?_
  refine ak hP hN rfl ?_
  iterate 2 (refine aj rfl fun _ k0 => ?_; simp only [zO, zT, acs, reduceCtorEq, aa, V, ad, ag, af, ae, ah, aD, aK]; (repeat refine an ?_); (try refine .inl ?_); apply k0; clear k0; simp only [zP, V])
  refine am ?_
  apply k9; clear k9; refine kp [0, 1, 4, 5, 7, 8, 9] ?_
  refine ai fun _ k10 => ?_
  have hil : i < K.length := by omega
  refine ak hP hN rfl ?_
  iterate 5 (refine aj rfl fun _ k0 => ?_; simp only [zO, zT, acs, reduceCtorEq, aa, V, ad, ag, af, ae, ah, aD, aK]; (repeat refine an ?_); (try refine .inl ?_); apply k0; clear k0; simp only [zP, V])
  refine aj rfl fun _ k0 => ?_
  refine aN (h := wQ m T W v s a hm hs ha (K.getD i kd0)) rfl rfl (by first | exact rfl | (simp only [ev, zP, aa, V]; exact rfl)) (by simp only [zV, acs, reduceCtorEq, aa, V, ad, ag, af, ae, ah, aD, aK]) ?_
  apply k0; clear k0; simp only [zP, V]
  refine am ?_
  apply k10; clear k10; refine kp [0, 1, 4, 5, 7, 8, 9, 16] ?_
  refine cd (fun hc11 => ?_) (fun hc11 => ?_)
  ·(try simp only [zB, reduceCtorEq] at hc11)
   have hii : i = i0 := hku i hil (by simpa using hc11)
   refine ai fun _ k12 => ?_
   refine ak hP hN rfl ?_
   iterate 2 (refine aj rfl fun _ k0 => ?_; simp only [zO, zT, acs, reduceCtorEq, aa, V, ad, ag, af, ae, ah, aD, aK]; (repeat refine an ?_); (try refine .inl ?_); apply k0; clear k0; simp only [zP, V])
   refine am ?_
   apply k12; clear k12; refine kp [0, 1, 4, 5, 7, 8, 9, 16] ?_
   refine aB ?_
   refine ⟨by first | exact .inl rfl | exact .inr rfl, _, rfl, ?_⟩; simp only [zP, aa, V, ah, aD, aK]
   rw [hii]; all_goals (first | exact ⟨rfl, rfl⟩ | rfl)
  (try simp only [zB, reduceCtorEq] at hc11)
  have hni : ¬ (K.getD i kd0).1 = m.out s a := by simpa using hc11
  refine ax ?_
  apply k8; clear k8; refine kp [0, 1, 4, 5, 7, 8, 9, 16] ?_
  refine ak hP hN rfl ?_
  iterate 2 (refine aj rfl fun _ k0 => ?_; simp only [zO, zT, acs, reduceCtorEq, aa, V, ad, ag, af, ae, ah, aD, aK]; (repeat refine an ?_); (try refine .inl ?_); apply k0; clear k0; simp only [zP, V])
  refine am ?_
  refine ⟨_, _, ?_, aw [0, 1, 4, 7, 8], i + 1, by omega, fun j h => ?_, rfl, rfl⟩
  · omega
  · by_cases e : j = i
    · rw [e]; exact hni
    · exact hnu j (by omega)
 ·exfalso; (try simp only [zB, reduceCtorEq] at hc7)
  exact absurd hk0 (hnu i0 (by omega))
set_option maxHeartbeats 1500000 in
theorem xZ (m : Mly) (T : List bc) (hK : ∀ x ∈ T, x.2.2.1.length ≤ 1000000) (t : Int) : bZ Try.prog 22 [m.av, .agg [.list ndT T], .one (.int .i64 t)] (.tup [.one (.list (.int .i64) (if gR m T t = 0 then (j5 m T t).1 else [])), .one (.int .i64 (if gR m T t = 0 then ((j5 m T t).2 : Int) else 0)), .one (.int .i64 (gR m T t))]) := by
 refine aU Try.func22 rfl (by kernel_rfl) (Nat.le_of_ble_eq_true rfl) rfl fun C hP hN hB => ?_
 replace hN : C.N = 76 := hN
 simp only [bg, V]
 refine ai fun _ k1 => ?_
 refine ak hP hN rfl ?_
 iterate 5 (refine aj rfl fun _ k0 => ?_; simp only [zO, zT, acs, reduceCtorEq, aa, V, ad, ag, af, ae, Mly.av, ah, aD, aR, aK]; (repeat refine And.intro (by first | omega | assumption | exact rfl | exact haQ | exact haN | exact hiK) ?_); (try refine .inl ?_); apply k0; clear k0; simp only [zP, V])
 refine am ?_
 apply k1; clear k1; refine kp [0, 1, 2, 3, 4, 6, 7, 8] ?_
 refine ai fun _ k2 => ?_
 refine ai fun _ k3 => ?_
 refine ak hP hN rfl ?_
 iterate 2 (refine aj rfl fun _ k0 => ?_; simp only [zO, zT, acs, reduceCtorEq, aa, V, ad, ag, af, ae, Mly.av, ah, aD, aR, aK]; (repeat refine And.intro (by first | omega | assumption | exact rfl | exact haQ | exact haN | exact hiK) ?_); (try refine .inl ?_); apply k0; clear k0; simp only [zP, V])
 refine aj rfl fun _ k0 => ?_
 refine aN (h := aA (tQ m T)) rfl rfl (by first | exact rfl | (simp only [ev, zP, aa, V]; exact rfl)) (by simp only [zV, acs, reduceCtorEq, aa, V, ad, ag, af, ae, Mly.av, ah, aD, aR, aK]) ?_
 apply k0; clear k0; simp only [zP, V]
 (refine aj rfl fun _ k0 => ?_; simp only [zO, zT, acs, reduceCtorEq, aa, V, ad, ag, af, ae, Mly.av, ah, aD, aR, aK]; (repeat refine And.intro (by first | omega | assumption | exact rfl | exact haQ | exact haN | exact hiK) ?_); (try refine .inl ?_); apply k0; clear k0; simp only [zP, V])
 refine am ?_
 apply k3; clear k3; refine kp [0, 1, 2, 3, 4, 6, 7, 8, 9] ?_
 refine ai fun _ k4 => ?_
 refine ak hP hN rfl ?_
 iterate 2 (refine aj rfl fun _ k0 => ?_; simp only [zO, zT, acs, reduceCtorEq, aa, V, ad, ag, af, ae, Mly.av, ah, aD, aR, aK]; (repeat refine And.intro (by first | omega | assumption | exact rfl | exact haQ | exact haN | exact hiK) ?_); (try refine .inl ?_); apply k0; clear k0; simp only [zP, V])
 refine am ?_
 apply k4; clear k4; refine kp [0, 1, 2, 3, 4, 6, 7, 8, 9, 19] ?_
 refine cd (fun hc5 => ?_) (fun hc5 => ?_)
 ·(try simp only [zB, reduceCtorEq] at hc5)
  have hE : gR m T t = fg m T := if_pos hc5
  have hE0 : ¬ gR m T t = 0 := by rw [hE]; exact hc5
  refine ai fun _ k6 => ?_
  refine ak hP hN rfl ?_
  iterate 4 (refine aj rfl fun _ k0 => ?_; simp only [zO, zT, acs, reduceCtorEq, aa, V, ad, ag, af, ae, Mly.av, ah, aD, aR, aK]; (repeat refine And.intro (by first | omega | assumption | exact rfl | exact haQ | exact haN | exact hiK) ?_); (try refine .inl ?_); apply k0; clear k0; simp only [zP, V])
  refine am ?_
  apply k6; clear k6; refine kp [0, 1, 2, 3, 4, 6, 7, 8, 9, 19] ?_
  refine aB ?_
  refine ⟨nr, _, rfl, ?_⟩; simp only [zF, zP, aa, V, Mly.av, ah, aD, aR, aK]
  first
  | (rw [if_neg hE0, if_neg hE0, hE]; exact cv ⟨aZ (bz rfl), aZ (.refl _), aZ (.refl _), trivial⟩)
  | (rw [if_pos hE, if_pos hE, hE, hW1, hW2]; exact VLE.of_eq rfl)
 (try simp only [zB, reduceCtorEq] at hc5)
 have hE0 : fg m T = 0 := by simpa using hc5
 obtain ⟨hv, hT, hrt⟩ := zC hE0
 have hm := fa hv
 have hn2 := hm.n2
 have ol := hm.ol
 refine ax ?_
 apply k2; clear k2; refine kp [0, 1, 2, 3, 4, 6, 7, 8, 9, 19] ?_
 refine ai fun _ k7 => ?_
 refine ai fun _ k8 => ?_
 refine ak hP hN rfl ?_
 iterate 3 (refine aj rfl fun _ k0 => ?_; simp only [zO, zT, acs, reduceCtorEq, aa, V, ad, ag, af, ae, Mly.av, ah, aD, aR, aK]; (repeat refine And.intro (by first | omega | assumption | exact rfl | exact haQ | exact haN | exact hiK) ?_); (try refine .inl ?_); apply k0; clear k0; simp only [zP, V])
 refine' aP (want := false) 5 rfl (m := 23) (by simp only [zP, aa, V]; exact rfl) (by kernel_rfl) rfl rfl rfl rfl rfl (fun hg9 => ?a9) ?b9 ?c9
 case a9 =>
  have hq9 := hg9; (try simp only [zB, reduceCtorEq] at hg9); simp only [zE]
  iterate 5 (refine bf rfl fun _ k0 => ?_; simp only [zO, zT, acs, reduceCtorEq, aa, V, ad, ag, af, ae, Mly.av, ah, aD, aR, aK]; (repeat refine And.intro (by first | omega | assumption | exact rfl | exact haQ | exact haN | exact hiK) ?_); (try refine .inl ?_); apply k0; clear k0; simp only [zP, V])
  (refine aj rfl fun _ k0 => ?_; simp only [zO, zT, acs, reduceCtorEq, aa, V, ad, ag, af, ae, Mly.av, ah, aD, aR, aK]; (repeat refine And.intro (by first | omega | assumption | exact rfl | exact haQ | exact haN | exact hiK) ?_); (try refine .inl ?_); apply k0; clear k0; simp only [zP, V])
  refine am ?_
  refine ⟨by simp only [zP, aa, V]; exact rfl, rfl, ?_, rfl⟩; (repeat refine aQ rfl ?_); exact bn (by exact rfl) hq9
 case b9 => exact cq
 simp only [b7, aT]
 refine am ?_
 apply k8; clear k8; refine kp [0, 1, 2, 3, 4, 6, 7, 8, 9, 19, 29] ?_
 refine cd (fun hc10 => ?_) (fun hc10 => ?_)
 ·(try simp only [zB, reduceCtorEq] at hc10)
  have hE : gR m T t = 2 := (if_neg (fun h => h hE0)).trans (if_pos hc10)
  have hE0 : ¬ gR m T t = 0 := by rw [hE]; decide
  refine ai fun _ k11 => ?_
  refine ak hP hN rfl ?_
  iterate 3 (refine aj rfl fun _ k0 => ?_; simp only [zO, zT, acs, reduceCtorEq, aa, V, ad, ag, af, ae, Mly.av, ah, aD, aR, aK]; (repeat refine And.intro (by first | omega | assumption | exact rfl | exact haQ | exact haN | exact hiK) ?_); (try refine .inl ?_); apply k0; clear k0; simp only [zP, V])
  refine am ?_
  apply k11; clear k11; refine kp [0, 1, 2, 3, 4, 6, 7, 8, 9, 19, 29] ?_
  refine aB ?_
  refine ⟨nr, _, rfl, ?_⟩; simp only [zF, zP, aa, V, Mly.av, ah, aD, aR, aK]
  first
  | (rw [if_neg hE0, if_neg hE0, hE]; exact cv ⟨aZ (bz rfl), aZ (.refl _), aZ (.refl _), trivial⟩)
  | (rw [if_pos hE, if_pos hE, hE, hW1, hW2]; exact VLE.of_eq rfl)
 (try simp only [zB, reduceCtorEq] at hc10)
 have ht : 0 ≤ t ∧ t < m.nx.length := hc10
 have hE : gR m T t = 0 := (if_neg (fun h => h hE0)).trans (if_neg (by omega))
 refine ax ?_
 apply k7; clear k7; refine kp [0, 1, 2, 3, 4, 6, 7, 8, 9, 19, 29] ?_
 refine ai fun _ k12 => ?_
 refine ak hP hN rfl ?_
 (refine aj rfl fun _ k0 => ?_; simp only [zO, zT, acs, reduceCtorEq, aa, V, ad, ag, af, ae, Mly.av, ah, aD, aR, aK]; (repeat refine And.intro (by first | omega | assumption | exact rfl | exact haQ | exact haN | exact hiK) ?_); (try refine .inl ?_); apply k0; clear k0; simp only [zP, V])
 refine am ?_
 apply k12; clear k12; refine kp [0, 1, 2, 3, 4, 6, 7, 8, 9, 10, 19, 29] ?_
 refine ai fun _ k13 => ?_
 refine ak hP hN rfl ?_
 iterate 4 (refine aj rfl fun _ k0 => ?_; simp only [zO, zT, acs, reduceCtorEq, aa, V, ad, ag, af, ae, Mly.av, ah, aD, aR, aK]; (repeat refine And.intro (by first | omega | assumption | exact rfl | exact haQ | exact haN | exact hiK) ?_); (try refine .inl ?_); apply k0; clear k0; simp only [zP, V])
 refine am ?_
 apply k13; clear k13; refine kp [0, 1, 2, 3, 4, 6, 7, 8, 9, 10, 11, 12, 19, 29] ?_
 refine ai fun _ k14 => ?_
 refine ay ?_
 refine fM 10 (.int .i64) 3 (by decide) rfl ?_; simp only [au, aE, aM, ba, Nat.zero_add, V]
 refine bb (fun n15 s15 => ∃ (p f v : Nat) (s : Int) (W : List Int) (G : List AO), (RTI m T p s) ∧ ((W ++ (wdG m T f p s).1, (wdG m T f p s).2) = j5 m T t) ∧ (T.length ≤ f + p) ∧ (W.length ≤ p) ∧ (G = [] ∨ ∃ ob, G = [ob]) ∧ n15 = T.length + 1 - p ∧ s15 = { env := [(3, .one (.ptr 0 0 0 0)), (4, .one (.ptr 1 0 0 0)), (6, .one .nils), (7, .one (.int .i64 0)), (8, .one (.int .i64 0)), (10, .one (.row 3 v)), (11, .one (.int .i64 (p : Int))), (12, .one (.ptr 2 0 0 0))], L := [.vars 24 [.int .i64 m.inp, .int .i64 m.st, .list (.list (.int .i64)) m.nx, .list (.list (.int .i64)) m.ot], .vars 29 [.list ndT T], .vars 3 [.int .i64 s], .row (.int .i64) 3 v W] ++ G }) ?_ ?_
 ·exact ⟨_, _, aw [3, 4, 6, 7, 8, 10, 11, 12], 0, T.length, 0, t, [], [], wR hrt ht, rfl, by omega, Nat.zero_le _, .inl rfl, rfl, rfl⟩
 rintro n15 s15 ⟨p, f, v, s, W, G, hrti, hW, hfp, hWl, hG, rfl, rfl⟩
 refine xa (L1 := [_, _, _, _]) hG rfl (by rw [hB]; simp) rfl rfl ?_
 refine ai fun _ k16 => ?_
 refine ai fun _ k17 => ?_
 have hpl9 := zN hrti
 refine ak hP hN rfl ?_
 iterate 7 (refine aj rfl fun _ k0 => ?_; simp only [zO, zT, acs, reduceCtorEq, aa, V, ad, ag, af, ae, Mly.av, ah, aD, aR, aK]; (repeat refine And.intro (by first | omega | assumption | exact rfl | exact haQ | exact haN | exact hiK) ?_); (try refine .inl ?_); apply k0; clear k0; simp only [zP, V])
 refine am ?_
 apply k17; clear k17; refine kp [3, 4, 6, 7, 8, 10, 11, 12, 37] ?_
 refine cd (fun hc18 => ?_) (fun hc18 => ?_)
 ·(try simp only [zB, reduceCtorEq] at hc18)
  have h0 : ¬ (T.getD p nd0).2.1 < 0 := by have h9 : 0 ≤ (T.getD p nd0).2.1 := hc18; omega
  obtain ⟨hpl, hs9, ha9, i0, hi0, hk0, hku, hk1, hk2, hrti2⟩ := yo hm hrti h0
  have hkm : (T.getD p nd0) ∈ T := by simp [List.getD, hpl]
  have hkl := hK _ hkm
  have q1 := hm.rl s.toNat (by omega)
  have q2 := hm.ql s.toNat (by omega)
  have hto : (((T.getD p nd0).2.2.1.getD i0 kd0).2.1.toNat : Int) = ((T.getD p nd0).2.2.1.getD i0 kd0).2.1 := by omega
  have haQ : 0 ≤ (T.getD p nd0).2.1 ∧ (T.getD p nd0).2.1 < ((m.ot.getD s.toNat []).length : Int) := by omega
  have haN : 0 ≤ (T.getD p nd0).2.1 ∧ (T.getD p nd0).2.1 < ((m.nx.getD s.toNat []).length : Int) := by omega
  have hiK : (0 : Int) ≤ (i0 : Int) ∧ (i0 : Int) < ((T.getD p nd0).2.2.1.length : Int) := by omega
  refine ax ?_
  apply k16; clear k16; refine kp [3, 4, 6, 7, 8, 10, 11, 12, 37] ?_
  refine ay ?_
  refine ai fun _ k19 => ?_
  refine ak hP hN rfl ?_
  iterate 8 (refine aj rfl fun _ k0 => ?_; simp only [zO, zT, acs, reduceCtorEq, aa, V, ad, ag, af, ae, Mly.av, ah, aD, aR, aK]; (repeat refine And.intro (by first | omega | assumption | exact rfl | exact haQ | exact haN | exact hiK) ?_); (try refine .inl ?_); apply k0; clear k0; simp only [zP, V])
  refine am ?_
  apply k19; clear k19; refine kp [3, 4, 6, 7, 8, 10, 11, 12, 13, 37] ?_
  refine ai fun _ k20 => ?_
  refine ak hP hN rfl ?_
  iterate 6 (refine aj rfl fun _ k0 => ?_; simp only [zO, zT, acs, reduceCtorEq, aa, V, ad, ag, af, ae, Mly.av, ah, aD, aR, aK]; (repeat refine And.intro (by first | omega | assumption | exact rfl | exact haQ | exact haN | exact hiK) ?_); (try refine .inl ?_); apply k0; clear k0; simp only [zP, V])
  (refine aj rfl fun _ k0 => ?_; simp only [zE, op1, ev, lkp, d5, bQ, bM, d4, Nat.mul_one, bS, cI, acs, Ty.dflt, zG, bY, cA, Ty.size, ne_eq, not_false_eq_true, Int.natCast_one, Int.mul_one, jE, jR, sU, reduceCtorEq, aa, V, ad, ag, af, ae, Try.el27, Try.el50, Try.st29, Try.st52, Try.td2, Try.td27, Try.td29, Try.td3, Try.td50, Try.td52, Try.td77, Mly.av, ah, aD, aR, aK]; (repeat refine And.intro (by first | omega | assumption | exact rfl | exact haQ | exact haN | exact hiK) ?_); (try refine .inl ?_); apply k0; clear k0; simp only [zP, V])
  refine aj rfl fun _ k0 => ?_
  refine aN (h := y8 m T W v s (T.getD p nd0).2.1 hm hs9 ha9 (T.getD p nd0).2.2.1 i0 hkl hi0 hk0 hku) rfl rfl (by first | exact rfl | (simp only [ev, zP, aa, V]; exact rfl)) (by simp only [zV, acs, reduceCtorEq, aa, V, ad, ag, af, ae, Mly.av, ah, aD, aR, aK]) ?_
  apply k0; clear k0; simp only [zP, V]
  (refine aj rfl fun _ k0 => ?_; simp only [zO, zT, acs, reduceCtorEq, aa, V, ad, ag, af, ae, Mly.av, ah, aD, aR, aK]; (repeat refine And.intro (by first | omega | assumption | exact rfl | exact haQ | exact haN | exact hiK) ?_); (try refine .inl ?_); apply k0; clear k0; simp only [zP, V])
  refine am ?_
  apply k20; clear k20; refine kp [3, 4, 6, 7, 8, 10, 11, 12, 13, 14, 37] ?_
  refine ai fun _ k21 => ?_
  refine ak hP hN rfl ?_
  iterate 5 (refine aj rfl fun _ k0 => ?_; simp only [zO, zT, acs, reduceCtorEq, aa, V, ad, ag, af, ae, Mly.av, ah, aD, aR, aK]; (repeat refine And.intro (by first | omega | assumption | exact rfl | exact haQ | exact haN | exact hiK) ?_); (try refine .inl ?_); apply k0; clear k0; simp only [zP, V])
  refine am ?_
  apply k21; clear k21; refine kp [3, 4, 6, 7, 8, 10, 11, 12, 13, 14, 37] ?_
  refine ai fun _ k22 => ?_
  refine ak hP hN rfl ?_
  iterate 11 (refine aj rfl fun _ k0 => ?_; simp only [zO, zT, acs, reduceCtorEq, aa, V, ad, ag, af, ae, Mly.av, ah, aD, aR, aK]; (repeat refine And.intro (by first | omega | assumption | exact rfl | exact haQ | exact haN | exact hiK) ?_); (try refine .inl ?_); apply k0; clear k0; simp only [zP, V])
  refine am ?_
  apply k22; clear k22; refine kp [3, 4, 6, 7, 8, 10, 11, 12, 13, 14, 37] ?_
  refine bp hP hN Try.mixed rfl ?_
  iterate 9 (refine aj rfl fun _ k0 => ?_; simp only [zO, zT, acs, reduceCtorEq, aa, V, ad, ag, af, ae, Mly.av, ah, aD, aR, aK]; (repeat refine And.intro (by first | omega | assumption | exact rfl | exact haQ | exact haN | exact hiK) ?_); (try refine .inl ?_); apply k0; clear k0; simp only [zP, V])
  refine am ?_
  refine ⟨by kernel_rfl, ?_⟩
  obtain ⟨g, rfl⟩ : ∃ g, f = g + 1 := ⟨f - 1, by omega⟩
  refine ⟨_, _, ?_, aw [3, 4, 6, 7, 8, 10, 11, 12], ((T.getD p nd0).2.2.1.getD i0 kd0).2.1.toNat, g, v + 1, m.nxt s (T.getD p nd0).2.1, W ++ [(T.getD p nd0).2.1], [.vars 3 [.int .i64 (T.getD p nd0).2.1]], hrti2, yS h0 hi0 hk0 hku hW, by omega, by rw [aq]; simp only [au, aE]; omega, .inr ⟨_, rfl⟩, rfl, ?_⟩
  · omega
  · rw [hto]; rfl
 (try simp only [zB, reduceCtorEq] at hc18)
 have h0 : (T.getD p nd0).2.1 < 0 := by have h9 : (T.getD p nd0).2.1 < 0 := hc18; exact h9
 rw [uP h0, List.append_nil] at hW
 have hW1 : (j5 m T t).1 = W := by rw [← hW]
 have hW2 : (j5 m T t).2 = p := by rw [← hW]
 refine aX ?_
 apply k14; clear k14; refine kp [3, 4, 6, 7, 8, 10, 11, 12, 37] ?_
 refine ai fun _ k23 => ?_
 refine cO 3 rfl ?_; simp only [aF, bl, zS, aa, and_self, and_true, true_and, and_false, false_and, if_true, if_false, eq_self, reduceCtorEq, Nat.one_ne_zero, Nat.zero_ne_one]
 refine ak hP hN rfl ?_
 iterate 5 (refine aj rfl fun _ k0 => ?_; simp only [zO, zT, acs, reduceCtorEq, aa, V, ad, ag, af, ae, Mly.av, ah, aD, aR, aK]; (repeat refine And.intro (by first | omega | assumption | exact rfl | exact haQ | exact haN | exact hiK) ?_); (try refine .inl ?_); apply k0; clear k0; simp only [zP, V])
 refine am ?_
 apply k23; clear k23; refine kp [3, 4, 6, 7, 8, 10, 11, 12, 37] ?_
 refine aB ?_
 refine ⟨nr, _, rfl, ?_⟩; simp only [zF, zP, aa, V, Mly.av, ah, aD, aR, aK]
 first
 | (rw [if_neg hE0, if_neg hE0, hE]; exact cv ⟨aZ (bz rfl), aZ (.refl _), aZ (.refl _), trivial⟩)
 | (rw [if_pos hE, if_pos hE, hE, hW1, hW2]; exact VLE.of_eq rfl)
theorem zH (xs ys : List Int) : bZ Try.prog 24 [.one (.list (.int .i64) xs), .one (.list (.int .i64) ys)] (.one (.bool (decide (xs = ys)))) := by
 refine aU Try.func24 rfl (by kernel_rfl) (Nat.le_of_ble_eq_true rfl) rfl fun C hP hN hB => ?_
 replace hN : C.N = 26 := hN
 simp only [bg, V]
 refine pr 0 rfl fun hf0 => ?_; simp only [lkp, if_true, if_false, reduceCtorEq, aa, eq_self, Nat.one_ne_zero, Nat.zero_ne_one, tE, qZ, rp, Fit, and_true, implies_true, true_and] at hf0
 refine ai fun _ k1 => ?_
 refine ak hP hN rfl ?_
 (refine aj rfl fun _ k0 => ?_; simp only [zO, zT, acs, reduceCtorEq, aa, V, ad, ag, af, ae]; (repeat refine an ?_); (try refine .inl ?_); apply k0; clear k0; simp only [zP, V])
 refine am ?_
 apply k1; clear k1; refine kp [0, 1, 4] ?_
 refine ai fun _ k2 => ?_
 refine ai fun _ k3 => ?_
 refine ak hP hN rfl ?_
 iterate 5 (refine aj rfl fun _ k0 => ?_; simp only [zO, zT, acs, reduceCtorEq, aa, V, ad, ag, af, ae]; (repeat refine an ?_); (try refine .inl ?_); apply k0; clear k0; simp only [zP, V])
 refine am ?_
 apply k3; clear k3; refine kp [0, 1, 4, 10] ?_
 refine cd (fun hc4 => ?_) (fun hc4 => ?_)
 ·(try simp only [zB, reduceCtorEq] at hc4)
  refine ai fun _ k5 => ?_
  refine ak hP hN rfl ?_
  (refine aj rfl fun _ k0 => ?_; simp only [zO, zT, acs, reduceCtorEq, aa, V, ad, ag, af, ae]; (repeat refine an ?_); (try refine .inl ?_); apply k0; clear k0; simp only [zP, V])
  refine am ?_
  apply k5; clear k5; refine kp [0, 1, 4, 10] ?_
  refine aB ?_
  refine ⟨nr, _, rfl, ?_⟩; simp only [zF, zP, aa, V]
  refine VLE.of_eq ?_
  first
  | (refine dW ?_; rintro rfl; first | exact absurd rfl ‹¬ _› | omega)
  | (refine ez ?_; have hk1 : k = xs.length := by omega
     have hk2 : k = ys.length := by omega
     rw [hk1, aJ, ← hk1, hk2, aJ] at hT; exact hT)
 (try simp only [zB, reduceCtorEq] at hc4)
 refine ax ?_
 apply k2; clear k2; refine kp [0, 1, 4, 10] ?_
 refine ai fun _ k6 => ?_
 refine ai fun _ k7 => ?_
 refine ak hP hN rfl ?_
 (refine aj rfl fun _ k0 => ?_; simp only [zO, zT, acs, reduceCtorEq, aa, V, ad, ag, af, ae]; (repeat refine an ?_); (try refine .inl ?_); apply k0; clear k0; simp only [zP, V])
 refine am ?_
 apply k7; clear k7; refine kp [0, 1, 4, 5, 10] ?_
 refine ay ?_
 refine bb (fun n8 s8 => ∃ (k : Nat), (k ≤ xs.length) ∧ (xs.take k = ys.take k) ∧ n8 = xs.length - k ∧ s8 = { env := [(0, .one (.list (.int .i64) xs)), (1, .one (.list (.int .i64) ys)), (5, .one (.int .i64 (k : Int)))], L := [] }) ?_ ?_
 ·exact ⟨_, _, aw [0, 1, 5], 0, Nat.zero_le _, rfl, rfl, rfl⟩
 rintro n8 s8 ⟨k, hk, hT, rfl, rfl⟩
 refine ai fun _ k9 => ?_
 refine ai fun _ k10 => ?_
 refine ak hP hN rfl ?_
 iterate 4 (refine aj rfl fun _ k0 => ?_; simp only [zO, zT, acs, reduceCtorEq, aa, V, ad, ag, af, ae]; (repeat refine an ?_); (try refine .inl ?_); apply k0; clear k0; simp only [zP, V])
 refine am ?_
 apply k10; clear k10; refine kp [0, 1, 5, 14] ?_
 refine cd (fun hc11 => ?_) (fun hc11 => ?_)
 ·(try simp only [zB, reduceCtorEq] at hc11)
  refine ax ?_
  apply k9; clear k9; refine kp [0, 1, 5, 14] ?_
  refine ai fun _ k12 => ?_
  refine ay ?_
  refine ai fun _ k13 => ?_
  refine bp hP hN Try.mixed rfl ?_
  iterate 9 (refine aj rfl fun _ k0 => ?_; simp only [zO, zT, acs, reduceCtorEq, aa, V, ad, ag, af, ae]; (repeat refine an ?_); (try refine .inl ?_); apply k0; clear k0; simp only [zP, V])
  refine am ?_
  refine ⟨by kernel_rfl, ?_⟩
  apply k13; clear k13; refine kp [0, 1, 5, 14, 25] ?_
  refine cd (fun hc14 => ?_) (fun hc14 => ?_)
  ·(try simp only [zB, reduceCtorEq] at hc14)
   refine ai fun _ k15 => ?_
   refine ak hP hN rfl ?_
   (refine aj rfl fun _ k0 => ?_; simp only [zO, zT, acs, reduceCtorEq, aa, V, ad, ag, af, ae]; (repeat refine an ?_); (try refine .inl ?_); apply k0; clear k0; simp only [zP, V])
   refine am ?_
   apply k15; clear k15; refine kp [0, 1, 4, 5, 14, 25] ?_
   refine aB ?_
   refine ⟨nr, _, rfl, ?_⟩; simp only [zF, zP, aa, V]
   refine VLE.of_eq ?_
   first
   | (refine dW ?_; rintro rfl; first | exact absurd rfl ‹¬ _› | omega)
   | (refine ez ?_; have hk1 : k = xs.length := by omega
      have hk2 : k = ys.length := by omega
      rw [hk1, aJ, ← hk1, hk2, aJ] at hT; exact hT)
  (try simp only [zB, reduceCtorEq] at hc14)
  refine ax ?_
  apply k12; clear k12; refine kp [0, 1, 5, 14, 25] ?_
  refine ak hP hN rfl ?_
  iterate 3 (refine aj rfl fun _ k0 => ?_; simp only [zO, zT, acs, reduceCtorEq, aa, V, ad, ag, af, ae]; (repeat refine an ?_); (try refine .inl ?_); apply k0; clear k0; simp only [zP, V])
  refine am ?_
  refine ⟨_, _, ?_, aw [0, 1, 5], k + 1, by omega, ir (d := 0) hT (by omega) (by omega) ?_, rfl, rfl⟩
  · omega
  · first | assumption | omega
 (try simp only [zB, reduceCtorEq] at hc11)
 refine aX ?_
 apply k6; clear k6; refine kp [0, 1, 5, 14] ?_
 refine ai fun _ k16 => ?_
 refine ak hP hN rfl ?_
 (refine aj rfl fun _ k0 => ?_; simp only [zO, zT, acs, reduceCtorEq, aa, V, ad, ag, af, ae]; (repeat refine an ?_); (try refine .inl ?_); apply k0; clear k0; simp only [zP, V])
 refine am ?_
 apply k16; clear k16; refine kp [0, 1, 4, 5, 14] ?_
 refine aB ?_
 refine ⟨nr, _, rfl, ?_⟩; simp only [zF, zP, aa, V]
 refine VLE.of_eq ?_
 first
 | (refine dW ?_; rintro rfl; first | exact absurd rfl ‹¬ _› | omega)
 | (refine ez ?_; have hk1 : k = xs.length := by omega
    have hk2 : k = ys.length := by omega
    rw [hk1, aJ, ← hk1, hk2, aJ] at hT; exact hT)
theorem Ac (xs ys : List Int) : bZ Try.prog 29 [.one (.list (.int .i64) xs), .one (.list (.int .i64) ys)] (.one (.bool (decide (xs = ys)))) := by
 refine aU Try.func29 rfl (by kernel_rfl) (Nat.le_of_ble_eq_true rfl) rfl fun C hP hN hB => ?_
 replace hN : C.N = 26 := hN
 simp only [bg, V]
 refine pr 0 rfl fun hf0 => ?_; simp only [lkp, if_true, if_false, reduceCtorEq, aa, eq_self, Nat.one_ne_zero, Nat.zero_ne_one, tE, qZ, rp, Fit, and_true, implies_true, true_and] at hf0
 refine ai fun _ k1 => ?_
 refine ak hP hN rfl ?_
 (refine aj rfl fun _ k0 => ?_; simp only [zO, zT, acs, reduceCtorEq, aa, V, ad, ag, af, ae]; (repeat refine an ?_); (try refine .inl ?_); apply k0; clear k0; simp only [zP, V])
 refine am ?_
 apply k1; clear k1; refine kp [0, 1, 4] ?_
 refine ai fun _ k2 => ?_
 refine ai fun _ k3 => ?_
 refine ak hP hN rfl ?_
 iterate 5 (refine aj rfl fun _ k0 => ?_; simp only [zO, zT, acs, reduceCtorEq, aa, V, ad, ag, af, ae]; (repeat refine an ?_); (try refine .inl ?_); apply k0; clear k0; simp only [zP, V])
 refine am ?_
 apply k3; clear k3; refine kp [0, 1, 4, 10] ?_
 refine cd (fun hc4 => ?_) (fun hc4 => ?_)
 ·(try simp only [zB, reduceCtorEq] at hc4)
  refine ai fun _ k5 => ?_
  refine ak hP hN rfl ?_
  (refine aj rfl fun _ k0 => ?_; simp only [zO, zT, acs, reduceCtorEq, aa, V, ad, ag, af, ae]; (repeat refine an ?_); (try refine .inl ?_); apply k0; clear k0; simp only [zP, V])
  refine am ?_
  apply k5; clear k5; refine kp [0, 1, 4, 10] ?_
  refine aB ?_
  refine ⟨nr, _, rfl, ?_⟩; simp only [zF, zP, aa, V]
  refine VLE.of_eq ?_
  first
  | (refine dW ?_; rintro rfl; first | exact absurd rfl ‹¬ _› | omega)
  | (refine ez ?_; have hk1 : k = xs.length := by omega
     have hk2 : k = ys.length := by omega
     rw [hk1, aJ, ← hk1, hk2, aJ] at hT; exact hT)
 (try simp only [zB, reduceCtorEq] at hc4)
 refine ax ?_
 apply k2; clear k2; refine kp [0, 1, 4, 10] ?_
 refine ai fun _ k6 => ?_
 refine ai fun _ k7 => ?_
 refine ak hP hN rfl ?_
 (refine aj rfl fun _ k0 => ?_; simp only [zO, zT, acs, reduceCtorEq, aa, V, ad, ag, af, ae]; (repeat refine an ?_); (try refine .inl ?_); apply k0; clear k0; simp only [zP, V])
 refine am ?_
 apply k7; clear k7; refine kp [0, 1, 4, 5, 10] ?_
 refine ay ?_
 refine bb (fun n8 s8 => ∃ (k : Nat), (k ≤ xs.length) ∧ (xs.take k = ys.take k) ∧ n8 = xs.length - k ∧ s8 = { env := [(0, .one (.list (.int .i64) xs)), (1, .one (.list (.int .i64) ys)), (5, .one (.int .i64 (k : Int)))], L := [] }) ?_ ?_
 ·exact ⟨_, _, aw [0, 1, 5], 0, Nat.zero_le _, rfl, rfl, rfl⟩
 rintro n8 s8 ⟨k, hk, hT, rfl, rfl⟩
 refine ai fun _ k9 => ?_
 refine ai fun _ k10 => ?_
 refine ak hP hN rfl ?_
 iterate 4 (refine aj rfl fun _ k0 => ?_; simp only [zO, zT, acs, reduceCtorEq, aa, V, ad, ag, af, ae]; (repeat refine an ?_); (try refine .inl ?_); apply k0; clear k0; simp only [zP, V])
 refine am ?_
 apply k10; clear k10; refine kp [0, 1, 5, 14] ?_
 refine cd (fun hc11 => ?_) (fun hc11 => ?_)
 ·(try simp only [zB, reduceCtorEq] at hc11)
  refine ax ?_
  apply k9; clear k9; refine kp [0, 1, 5, 14] ?_
  refine ai fun _ k12 => ?_
  refine ay ?_
  refine ai fun _ k13 => ?_
  refine bp hP hN Try.mixed rfl ?_
  iterate 9 (refine aj rfl fun _ k0 => ?_; simp only [zO, zT, acs, reduceCtorEq, aa, V, ad, ag, af, ae]; (repeat refine an ?_); (try refine .inl ?_); apply k0; clear k0; simp only [zP, V])
  refine am ?_
  refine ⟨by kernel_rfl, ?_⟩
  apply k13; clear k13; refine kp [0, 1, 5, 14, 25] ?_
  refine cd (fun hc14 => ?_) (fun hc14 => ?_)
  ·(try simp only [zB, reduceCtorEq] at hc14)
   refine ai fun _ k15 => ?_
   refine ak hP hN rfl ?_
   (refine aj rfl fun _ k0 => ?_; simp only [zO, zT, acs, reduceCtorEq, aa, V, ad, ag, af, ae]; (repeat refine an ?_); (try refine .inl ?_); apply k0; clear k0; simp only [zP, V])
   refine am ?_
   apply k15; clear k15; refine kp [0, 1, 4, 5, 14, 25] ?_
   refine aB ?_
   refine ⟨nr, _, rfl, ?_⟩; simp only [zF, zP, aa, V]
   refine VLE.of_eq ?_
   first
   | (refine dW ?_; rintro rfl; first | exact absurd rfl ‹¬ _› | omega)
   | (refine ez ?_; have hk1 : k = xs.length := by omega
      have hk2 : k = ys.length := by omega
      rw [hk1, aJ, ← hk1, hk2, aJ] at hT; exact hT)
  (try simp only [zB, reduceCtorEq] at hc14)
  refine ax ?_
  apply k12; clear k12; refine kp [0, 1, 5, 14, 25] ?_
  refine ak hP hN rfl ?_
  iterate 3 (refine aj rfl fun _ k0 => ?_; simp only [zO, zT, acs, reduceCtorEq, aa, V, ad, ag, af, ae]; (repeat refine an ?_); (try refine .inl ?_); apply k0; clear k0; simp only [zP, V])
  refine am ?_
  refine ⟨_, _, ?_, aw [0, 1, 5], k + 1, by omega, ir (d := 0) hT (by omega) (by omega) ?_, rfl, rfl⟩
  · omega
  · first | assumption | omega
 (try simp only [zB, reduceCtorEq] at hc11)
 refine aX ?_
 apply k6; clear k6; refine kp [0, 1, 5, 14] ?_
 refine ai fun _ k16 => ?_
 refine ak hP hN rfl ?_
 (refine aj rfl fun _ k0 => ?_; simp only [zO, zT, acs, reduceCtorEq, aa, V, ad, ag, af, ae]; (repeat refine an ?_); (try refine .inl ?_); apply k0; clear k0; simp only [zP, V])
 refine am ?_
 apply k16; clear k16; refine kp [0, 1, 4, 5, 14] ?_
 refine aB ?_
 refine ⟨nr, _, rfl, ?_⟩; simp only [zF, zP, aa, V]
 refine VLE.of_eq ?_
 first
 | (refine dW ?_; rintro rfl; first | exact absurd rfl ‹¬ _› | omega)
 | (refine ez ?_; have hk1 : k = xs.length := by omega
    have hk2 : k = ys.length := by omega
    rw [hk1, aJ, ← hk1, hk2, aJ] at hT; exact hT)
end Go.Proofs.Ytoahhklogohehaa
