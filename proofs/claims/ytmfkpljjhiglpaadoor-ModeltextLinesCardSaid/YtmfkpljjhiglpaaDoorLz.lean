/- The contract of slices.Compact on an own row of ints, out of the shelf's contract. -/
import Derived.Test.YtmfkpljjhiglpaaDoorLy
import Derived.Shelf.Slices.CompactI
set_option linter.unusedSimpArgs false
set_option linter.unusedVariables false
namespace Go.AV
open Go Go.RowKit Go.Sort
def mc (P : Program) (f : FuncId) : Prop := fj P f ∧ ∀ (blk off cap : Nat) (zs : List Int) (w : World), Holds (Value.int .i64) w blk off zs.toArray → zs.length ≤ 9223372036854775807 → zs.length ≤ cap →
    Calls P f #[.slice (some ⟨blk, off, none⟩) zs.length cap] w fun e w' => e = .returned (.slice (some ⟨blk, off, none⟩) (Lib.compact zs).length cap) ∧
      ∃ q, w' = putRow (Value.int .i64) (Sort.ahead w q) blk off (Lib.compact zs ++ List.replicate (zs.length - (Lib.compact zs).length) 0).toArray
theorem m5 {P : Program} {L0 : List AO} {f : FuncId} {k ver : Nat} {e : TypeId} {xs : List Int} (hs : mc P f) (hL : L0[k]? = some (.row (.int .i64) e ver xs)) (h0 : 0 < xs.length) (h1 : xs.length ≤ 9223372036854775807) (hle : (Lib.compact xs).length ≤ xs.length) :
    ee P L0 f [.one (.row k ver)] { av := .one (.row k (ver + 1)), upd := [(k, .row (.int .i64) e (ver + 1) (Lib.compact xs))], fp := [k] } := by
  refine ⟨hs.1, fun C L σ w vs hP hi ha hfp hlen => ?_⟩
  have hob : L[k]? = some (.row (.int .i64) e ver xs) := by rw [hfp k (by simp)]; exact hL
  cases vs with
  | nil => exact ha.elim
  | cons v vs =>
  cases vs with
  | cons _ _ => exact ha.2.elim
  | nil =>
  obtain ⟨hv, _⟩ := ha
  obtain ⟨ob, q1, q2, q3⟩ := hv.2
  rw [hob] at q1; cases q1
  obtain ⟨_, hvs⟩ := q3 rfl rfl
  obtain ⟨flat, ho, hp, hd⟩ := hi.ob k _ hob
  have hfl := ho.1
  have hsz : (Ty.int IntKind.i64).size = 1 := rfl
  rw [hsz] at hfl hd
  have hflat := kX (by omega) hd
  rcases ho.2 with ⟨hh, hz⟩ | ⟨g, cap, cur, hvg, hbase, hg, hn, hcap, hcs, htk⟩
  · omega
  · rw [hsz, hflat, Nat.mul_one] at htk
    rw [hsz, Nat.mul_one] at hcs
    have hH := holds_of_blockI hg htk
    have hlt : g < w.heap.size := (Array.getElem?_eq_some_iff.1 hg).1
    have hklt : k < L.length := (List.getElem?_eq_some_iff.1 hob).1
    have hown : own L σ k g := ⟨_, hob, rfl, by rw [hvg]; rfl⟩
    have hcall := hs.2 g 0 cap xs w hH h1 hn
    rw [hvs, hvg]
    refine hcall.mono fun en w' hh => ?_
    obtain ⟨e1, n, e2⟩ := hh
    refine ⟨_, e1, ?_⟩
    have e3 : w' = grow (putRow (Value.int .i64) (Sort.ahead w n) g 0 (Lib.compact xs ++ List.replicate (xs.length - (Lib.compact xs).length) 0).toArray) #[] := by rw [grow_empty]; exact e2
    subst e3
    obtain ⟨g1, g2, g3, g4, g5⟩ := grownBy_sortedI (w := w) (g := g) (n := n) (os := #[]) (Lib.compact xs ++ List.replicate (xs.length - (Lib.compact xs).length) 0).toArray
    have hll : (Lib.compact xs ++ List.replicate (xs.length - (Lib.compact xs).length) 0).length = xs.length := by rw [List.length_append, List.length_replicate]; omega
    refine bU (σ' := sup σ k (.slice (some ⟨g, 0, none⟩) (Lib.compact xs).length cap)) hi hob g4 g1 g2 g3 (fun b hb hno => g5 b hb (fun e => hno ((Option.some.inj e) ▸ hown))) (fun j hj => ct σ _ hj) ⟨Nat.le_succ _, fun _ h => by simp [AO.ver] at h⟩
      (fun _ j hj => .inl (by rw [aL] at hj; cases hj; exact hown)) (fun hp _ => ?_) (fun _ _ => ?_)
    · refine ⟨(Lib.compact xs).map (Value.int .i64), ?_, by decide, fun i hi2 => ?_⟩
      · rw [aL]
        refine ⟨by simp [hsz], .inr ⟨g, cap, _, rfl, Nat.zero_le _, heap_sortedI _ hg, by omega, hcap, by rw [hsz, Nat.mul_one]; simp [putCells, hcs], ?_⟩⟩
        have ht := take_putCellsI cur (Lib.compact xs ++ List.replicate (xs.length - (Lib.compact xs).length) 0) (by omega)
        rw [hsz, Nat.mul_one]
        have := congrArg (List.take (Lib.compact xs).length) ht
        rw [List.take_take, hll, Nat.min_eq_left hle] at this
        rw [this, ← List.map_take, List.take_left]
      · have hi3 : i < ((Lib.compact xs).map (Value.int .i64)).length := by simpa using hi2
        show Dat _ _ (.int .i64) _ (((List.map (Value.int .i64) (Lib.compact xs)).drop (i * 1)).take 1)
        rw [Nat.mul_one, List.drop_eq_getElem_cons hi3]
        have e2 : (Lib.compact xs).getD i 0 = (Lib.compact xs)[i] := by rw [List.getD, List.getElem?_eq_getElem hi2]; rfl
        show Dat _ _ (.int .i64) ((Lib.compact xs).getD i 0) [_]
        rw [e2]; simp [Dat]
    · refine ⟨rfl, .row (.int .i64) e (ver + 1) (Lib.compact xs), by simp [hklt], Nat.le_refl _, fun _ _ => ⟨⟨_, _, _, rfl⟩, by rw [aL]⟩⟩
section
variable {C C' : Ctx} {L : List AO} {σ : Sig} {w : World}
theorem iE (hX : C'.X = C.X) : avd C' L σ = avd C L σ := by funext b; simp only [avd, hX]
theorem j8 (hX : C'.X = C.X) : @fi C' L σ w = @fi C L σ w := by funext t d off v; simp only [fi, iE hX]
theorem oe (hX : C'.X = C.X) : RFN C' L σ w = RFN C L σ w := by funext f ds v; simp only [RFN, iE hX, j8 hX]
theorem qM (hX : C'.X = C.X) : jC C' L σ w = jC C L σ w := by
  funext c u; cases c <;> simp only [jC, j8 hX, oe hX]
theorem gy (hX : C'.X = C.X) : RC C' L σ w = RC C L σ w := by
  funext c u; cases c <;> simp only [RC, RC0, iE hX, j8 hX, oe hX, qM hX]
theorem rR (hX : C'.X = C.X) : RV1 C' L σ w = RV1 C L σ w := by
  funext c u; cases c <;> simp only [RV1, gy hX]
theorem kl (hX : C'.X = C.X) : RV C' L σ w = RV C L σ w := by
  funext c u; cases c <;> simp only [RV, rR hX]
theorem km (hX : C'.X = C.X) (hP : C'.P = C.P) (o : Nat) (ob : AO) : OB C' L σ w o ob = OB C L σ w o ob := by
  cases ob <;> simp only [OB, gy hX, iE hX, hP]
end
theorem fl {P : Program} {f : FuncId} {fn : Func} {c : Code} {args : List AV} (L0 : List AO) (out : Out) (hf : P.funcs[f]? = some fn) (hb : fn.body = some c) (hname : (fn.name == "runtime.NumGoroutine") = false) (hn : args.length ≤ fn.ntmps)
    (hfp : ∀ k, k < L0.length → k ∈ out.fp)
    (h : ∀ C, C.P = P → C.N = fn.ntmps → C.bL = L0 → AWP C c (t8 P fn fun s' v => s'.L = app L0 out ∧ v = out.av) { env := aW 0 args, L := L0 }) : ee P L0 f args out := by
  refine ⟨⟨fn, hf, hname, by rw [hb]; rfl⟩, fun C L σ w vs hP hI ha hfp2 hlen => ?_⟩
  have hL : L = L0 := List.ext_getElem? fun k => by
    by_cases hk : k < L0.length
    · exact hfp2 k (hfp k hk)
    · rw [List.getElem?_eq_none (by omega), List.getElem?_eq_none (by omega)]
  subst hL
  let C2 : Ctx := { P := P, X := C.X, keep := fun b => b < w.heap.size ∧ ¬ ∃ o, own L σ o b, w0 := w, N := fn.ntmps, bL := L, bσ := σ, bw := w }
  have hX : C2.X = C.X := rfl
  have hP2 : C2.P = C.P := hP.symm
  have hI2 : INV C2 L σ w := ⟨fun o ob e => by rw [km hX hP2]; exact hI.ob o ob e, hI.inj, fun o b ho => ⟨fun hk => hk.2 ⟨o, ho⟩, (hI.off o b ho).2⟩, fun b hb => ⟨hb.1, rfl⟩, fun b hb => Nat.lt_of_lt_of_le (hI.xlt b hb) hI.size, Nat.le_refl _, rfl, rfl, rfl⟩
  have hargs : aO (RV C2 L σ w) args vs := by rw [kl hX]; exact ha
  have hl := hargs.length
  refine (calls_of_wp hf hb (P := P) (R := fun e w' => ∃ (s' : St) (σ' : Sig) (v : AV) (u : Value), e = .returned u ∧ (s'.L = app L out ∧ v = out.av) ∧ INV C2 s'.L σ' w' ∧ RV C2 s'.L σ' w' v u ∧ cS C2 L σ w s'.L σ' w')
    (wp_mono (h C2 rfl rfl rfl σ _ w ⟨hI2, fun t => ?_, by simp [C2]; omega, rfl, cS.refl _ _ _ _⟩) fun e a' w' ⟨s', σ', h1, h2⟩ => ?_)).mono fun e w' hh => ?_
  · rw [gj, if_pos (Nat.zero_le _), Nat.sub_zero]
    cases ht : args[t]? with
    | none => trivial
    | some a =>
      obtain ⟨u, hu, hru⟩ := hargs.at_ ht
      have : (vs.toArray ++ Array.replicate (fn.ntmps - vs.toArray.size) undef).getD t undef = u := by
        have htl : t < vs.length := (List.getElem?_eq_some_iff.1 hu).1
        simp only [Array.getD_eq_getD_getElem?]
        rw [Array.getElem?_append_left (by simpa using htl)]
        simp [hu]
      rw [this]
      exact hru
  · obtain ⟨he, v, hv, hR⟩ := h1
    obtain ⟨u, hu, hru⟩ := jP h2 hv
    have hfin : a'.defers = [] ∧ ∃ v, (results fn a'.tmps).run P w' = .ok v w' ∧ ∃ (s' : St) (σ' : Sig) (v' : AV) (u : Value), Ending.returned v = .returned u ∧ (s'.L = app L out ∧ v' = out.av) ∧ INV C2 s'.L σ' w' ∧ RV C2 s'.L σ' w' v' u ∧ cS C2 L σ w s'.L σ' w' :=
      ⟨h2.defers, u, hu, s', σ', v, u, rfl, hR, h2.inv, hru, h2.pres⟩
    rcases he with rfl | rfl
    · exact hfin
    · exact hfin
  · obtain ⟨s', σ', v, u, rfl, ⟨hLf, rfl⟩, h1, h2, h3⟩ := hh
    rw [hLf] at h1 h2 h3
    refine ⟨u, rfl, σ', ⟨fun o ob e => ?_, h1.inj, fun o b ho => ?_, fun b hb => ?_, hI.xlt, Nat.le_trans hI.size h1.size, h1.os.trans hI.os, h1.tape.trans hI.tape, h1.output.trans hI.output⟩, ?_, ?_⟩
    · have := h1.ob o ob e
      rw [km hX hP2] at this; exact this
    · obtain ⟨g1, g2⟩ := h1.off o b ho
      refine ⟨fun hk => ?_, g2⟩
      have hlt := (hI.kept b hk).1
      have hsz := hI.size
      have hno : ¬ ∃ o, own L σ o b := fun ⟨o', ho'⟩ => (hI.off o' b ho').1 hk
      exact g1 ⟨Nat.lt_of_lt_of_le hlt hsz, hno⟩
    · have hk := hI.kept b hb
      have hno : ¬ ∃ o, own L σ o b := fun ⟨o', ho'⟩ => (hI.off o' b ho').1 hb
      have := (h1.kept b ⟨Nat.lt_of_lt_of_le hk.1 hI.size, hno⟩).2
      exact ⟨hk.1, this.trans hk.2⟩
    · rw [kl hX] at h2; exact h2
    · intro c u hc
      have := h3 c u (by rw [gy hX]; exact hc)
      rw [gy hX] at this; exact this
theorem rz {C : Ctx} {Q : Exit → St → Prop} {s : St} {c : Code} {L1 : List AO} {ob : AO} (hL : s.L = L1 ++ [ob]) (hB : C.bL.length ≤ L1.length) (he : s.env.all (fun x => ly L1.length x.2) = true) (ho : L1.all (tc L1.length) = true)
    (h : AWP C c Q { env := s.env, L := L1 }) : AWP C c Q s := by
  refine qA L1.length (ob := ob) (by rw [hL]; simp) ?_
  refine rh (L1 := L1) (ver := ob.ver) (n := L1.length) ?_ rfl hB he ho h
  show s.L.set L1.length _ = _
  rw [hL, List.set_append]
  simp
section
variable {C C' : Ctx} {L L' : List AO} {σ σ' : Sig} {w : World} {n : Nat}
end
theorem iU {k : Nat} {x : AO} : ∀ (u : List (Nat × AO)) (L : List AO), bq L (u ++ [(k, x)]) = (bq L u).set k x
  | [], L => rfl
  | (j, ob) :: u, L => by simp only [List.cons_append, bq]; exact iU u _

end Go.AV
