/- The contract of slices.Compact on an own row of ints, out of the shelf's contract. -/
import Derived.Test.YtmfkpljjhiglpaaGreatDoorLy
import Derived.Shelf.Slices.CompactI
set_option linter.unusedSimpArgs false
set_option linter.unusedVariables false
namespace Go.AV
open Go Go.RowKit Go.Sort
def oK (P : Program) (f : FuncId) : Prop := gu P f ∧ ∀ (blk off cap : Nat) (zs : List Int) (w : World), Holds (Value.int .i64) w blk off zs.toArray → zs.length ≤ 9223372036854775807 → zs.length ≤ cap →
    Calls P f #[.slice (some ⟨blk, off, none⟩) zs.length cap] w fun e w' => e = .returned (.slice (some ⟨blk, off, none⟩) (Lib.compact zs).length cap) ∧
      ∃ q, w' = putRow (Value.int .i64) (Sort.ahead w q) blk off (Lib.compact zs ++ List.replicate (zs.length - (Lib.compact zs).length) 0).toArray
theorem o0 {P : Program} {L0 : List AO} {f : FuncId} {k ver : Nat} {e : TypeId} {xs : List Int} (hs : oK P f) (hL : L0[k]? = some (.row (.int .i64) e ver xs)) (h0 : 0 < xs.length) (h1 : xs.length ≤ 9223372036854775807) (hle : (Lib.compact xs).length ≤ xs.length) :
    dI P L0 f [.one (.row k ver)] { av := .one (.row k (ver + 1)), upd := [(k, .row (.int .i64) e (ver + 1) (Lib.compact xs))], fp := [k] } := by
  refine ⟨hs.1, fun C L σ w vs hP hi ha hfp hlen => ?_⟩
  have hob : L[k]? = some (.row (.int .i64) e ver xs) := by rw [hfp k (by simp)]; exact hL
  cases vs with
  | nil => exact ha.elim
  | cons v vs =>
  cases vs with
  | cons _ _ => exact ha.2.elim
  | nil =>
  obtain ⟨hv, _⟩ := ha
  obtain ⟨ob, q1, q2, q3⟩ := hv.2
  rw [hob] at q1; cases q1
  obtain ⟨_, hvs⟩ := q3 rfl rfl
  obtain ⟨flat, ho, hp, hd⟩ := hi.ob k _ hob
  have hfl := ho.1
  have hsz : (Ty.int IntKind.i64).size = 1 := rfl
  rw [hsz] at hfl hd
  have hflat := ne (by omega) hd
  rcases ho.2 with ⟨hh, hz⟩ | ⟨g, cap, cur, hvg, hbase, hg, hn, hcap, hcs, htk⟩
  · omega
  · rw [hsz, hflat, Nat.mul_one] at htk
    rw [hsz, Nat.mul_one] at hcs
    have hH := holds_of_blockI hg htk
    have hlt : g < w.heap.size := (Array.getElem?_eq_some_iff.1 hg).1
    have hklt : k < L.length := (List.getElem?_eq_some_iff.1 hob).1
    have hown : own L σ k g := ⟨_, hob, rfl, by rw [hvg]; rfl⟩
    have hcall := hs.2 g 0 cap xs w hH h1 hn
    rw [hvs, hvg]
    refine hcall.mono fun en w' hh => ?_
    obtain ⟨e1, n, e2⟩ := hh
    refine ⟨_, e1, ?_⟩
    have e3 : w' = grow (putRow (Value.int .i64) (Sort.ahead w n) g 0 (Lib.compact xs ++ List.replicate (xs.length - (Lib.compact xs).length) 0).toArray) #[] := by rw [grow_empty]; exact e2
    subst e3
    obtain ⟨g1, g2, g3, g4, g5⟩ := grownBy_sortedI (w := w) (g := g) (n := n) (os := #[]) (Lib.compact xs ++ List.replicate (xs.length - (Lib.compact xs).length) 0).toArray
    have hll : (Lib.compact xs ++ List.replicate (xs.length - (Lib.compact xs).length) 0).length = xs.length := by rw [List.length_append, List.length_replicate]; omega
    refine cj (σ' := sup σ k (.slice (some ⟨g, 0, none⟩) (Lib.compact xs).length cap)) hi hob g4 g1 g2 g3 (fun b hb hno => g5 b hb (fun e => hno ((Option.some.inj e) ▸ hown))) (fun j hj => cH σ _ hj) ⟨Nat.le_succ _, fun _ h => by simp [AO.ver] at h⟩
      (fun _ j hj => .inl (by rw [aO] at hj; cases hj; exact hown)) (fun hp _ => ?_) (fun _ _ => ?_)
    · refine ⟨(Lib.compact xs).map (Value.int .i64), ?_, by decide, fun i hi2 => ?_⟩
      · rw [aO]
        refine ⟨by simp [hsz], .inr ⟨g, cap, _, rfl, Nat.zero_le _, heap_sortedI _ hg, by omega, hcap, by rw [hsz, Nat.mul_one]; simp [putCells, hcs], ?_⟩⟩
        have ht := take_putCellsI cur (Lib.compact xs ++ List.replicate (xs.length - (Lib.compact xs).length) 0) (by omega)
        rw [hsz, Nat.mul_one]
        have := congrArg (List.take (Lib.compact xs).length) ht
        rw [List.take_take, hll, Nat.min_eq_left hle] at this
        rw [this, ← List.map_take, List.take_left]
      · have hi3 : i < ((Lib.compact xs).map (Value.int .i64)).length := by simpa using hi2
        show Dat _ _ (.int .i64) _ (((List.map (Value.int .i64) (Lib.compact xs)).drop (i * 1)).take 1)
        rw [Nat.mul_one, List.drop_eq_getElem_cons hi3]
        have e2 : (Lib.compact xs).getD i 0 = (Lib.compact xs)[i] := by rw [List.getD, List.getElem?_eq_getElem hi2]; rfl
        show Dat _ _ (.int .i64) ((Lib.compact xs).getD i 0) [_]
        rw [e2]; simp [Dat]
    · refine ⟨rfl, .row (.int .i64) e (ver + 1) (Lib.compact xs), by simp [hklt], Nat.le_refl _, fun _ _ => ⟨⟨_, _, _, rfl⟩, by rw [aO]⟩⟩
section
variable {C C' : Ctx} {L : List AO} {σ : Sig} {w : World}
theorem ku (hX : C'.X = C.X) : avd C' L σ = avd C L σ := by funext b; simp only [avd, hX]
theorem kN (hX : C'.X = C.X) : @gk C' L σ w = @gk C L σ w := by funext t d off v; simp only [gk, ku hX]
theorem qr (hX : C'.X = C.X) : RFN C' L σ w = RFN C L σ w := by funext f ds v; simp only [RFN, ku hX, kN hX]
theorem tM (hX : C'.X = C.X) : lG C' L σ w = lG C L σ w := by
  funext c u; cases c <;> simp only [lG, kN hX, qr hX]
theorem iU (hX : C'.X = C.X) : RC C' L σ w = RC C L σ w := by
  funext c u; cases c <;> simp only [RC, RC0, ku hX, kN hX, qr hX, tM hX]
theorem v8 (hX : C'.X = C.X) : RV1 C' L σ w = RV1 C L σ w := by
  funext c u; cases c <;> simp only [RV1, iU hX]
theorem mf (hX : C'.X = C.X) : RV C' L σ w = RV C L σ w := by
  funext c u; cases c <;> simp only [RV, v8 hX]
theorem mc (hX : C'.X = C.X) (hP : C'.P = C.P) (o : Nat) (ob : AO) : OB C' L σ w o ob = OB C L σ w o ob := by
  cases ob <;> simp only [OB, iU hX, ku hX, hP]
end
theorem dQ {P : Program} {f : FuncId} {fn : Func} {c : Code} {args : List AV} (L0 : List AO) (out : Out) (hf : P.funcs[f]? = some fn) (hb : fn.body = some c) (hname : (fn.name == "runtime.NumGoroutine") = false) (hn : args.length ≤ fn.ntmps)
    (hfp : ∀ k, k < L0.length → k ∈ out.fp)
    (h : ∀ C, C.P = P → C.N = fn.ntmps → C.bL = L0 → AWP C c (ux P fn fun s' v => s'.L = app L0 out ∧ v = out.av) { env := aX 0 args, L := L0 }) : dI P L0 f args out := by
  refine ⟨⟨fn, hf, hname, by rw [hb]; rfl⟩, fun C L σ w vs hP hI ha hfp2 hlen => ?_⟩
  have hL : L = L0 := List.ext_getElem? fun k => by
    by_cases hk : k < L0.length
    · exact hfp2 k (hfp k hk)
    · rw [List.getElem?_eq_none (by omega), List.getElem?_eq_none (by omega)]
  subst hL
  let C2 : Ctx := { P := P, X := C.X, keep := fun b => b < w.heap.size ∧ ¬ ∃ o, own L σ o b, w0 := w, N := fn.ntmps, bL := L, bσ := σ, bw := w }
  have hX : C2.X = C.X := rfl
  have hP2 : C2.P = C.P := hP.symm
  have hI2 : INV C2 L σ w := ⟨fun o ob e => by rw [mc hX hP2]; exact hI.ob o ob e, hI.inj, fun o b ho => ⟨fun hk => hk.2 ⟨o, ho⟩, (hI.off o b ho).2⟩, fun b hb => ⟨hb.1, rfl⟩, fun b hb => Nat.lt_of_lt_of_le (hI.xlt b hb) hI.size, Nat.le_refl _, rfl, rfl, rfl⟩
  have hargs : aV (RV C2 L σ w) args vs := by rw [mf hX]; exact ha
  have hl := hargs.length
  refine (calls_of_wp hf hb (P := P) (R := fun e w' => ∃ (s' : St) (σ' : Sig) (v : AV) (u : Value), e = .returned u ∧ (s'.L = app L out ∧ v = out.av) ∧ INV C2 s'.L σ' w' ∧ RV C2 s'.L σ' w' v u ∧ cX C2 L σ w s'.L σ' w')
    (wp_mono (h C2 rfl rfl rfl σ _ w ⟨hI2, fun t => ?_, by simp [C2]; omega, rfl, cX.refl _ _ _ _⟩) fun e a' w' ⟨s', σ', h1, h2⟩ => ?_)).mono fun e w' hh => ?_
  · rw [io, if_pos (Nat.zero_le _), Nat.sub_zero]
    cases ht : args[t]? with
    | none => trivial
    | some a =>
      obtain ⟨u, hu, hru⟩ := hargs.at_ ht
      have : (vs.toArray ++ Array.replicate (fn.ntmps - vs.toArray.size) undef).getD t undef = u := by
        have htl : t < vs.length := (List.getElem?_eq_some_iff.1 hu).1
        simp only [Array.getD_eq_getD_getElem?]
        rw [Array.getElem?_append_left (by simpa using htl)]
        simp [hu]
      rw [this]
      exact hru
  · obtain ⟨he, v, hv, hR⟩ := h1
    obtain ⟨u, hu, hru⟩ := lK h2 hv
    have hfin : a'.defers = [] ∧ ∃ v, (results fn a'.tmps).run P w' = .ok v w' ∧ ∃ (s' : St) (σ' : Sig) (v' : AV) (u : Value), Ending.returned v = .returned u ∧ (s'.L = app L out ∧ v' = out.av) ∧ INV C2 s'.L σ' w' ∧ RV C2 s'.L σ' w' v' u ∧ cX C2 L σ w s'.L σ' w' :=
      ⟨h2.defers, u, hu, s', σ', v, u, rfl, hR, h2.inv, hru, h2.pres⟩
    rcases he with rfl | rfl
    · exact hfin
    · exact hfin
  · obtain ⟨s', σ', v, u, rfl, ⟨hLf, rfl⟩, h1, h2, h3⟩ := hh
    rw [hLf] at h1 h2 h3
    refine ⟨u, rfl, σ', ⟨fun o ob e => ?_, h1.inj, fun o b ho => ?_, fun b hb => ?_, hI.xlt, Nat.le_trans hI.size h1.size, h1.os.trans hI.os, h1.tape.trans hI.tape, h1.output.trans hI.output⟩, ?_, ?_⟩
    · have := h1.ob o ob e
      rw [mc hX hP2] at this; exact this
    · obtain ⟨g1, g2⟩ := h1.off o b ho
      refine ⟨fun hk => ?_, g2⟩
      have hlt := (hI.kept b hk).1
      have hsz := hI.size
      have hno : ¬ ∃ o, own L σ o b := fun ⟨o', ho'⟩ => (hI.off o' b ho').1 hk
      exact g1 ⟨Nat.lt_of_lt_of_le hlt hsz, hno⟩
    · have hk := hI.kept b hb
      have hno : ¬ ∃ o, own L σ o b := fun ⟨o', ho'⟩ => (hI.off o' b ho').1 hb
      have := (h1.kept b ⟨Nat.lt_of_lt_of_le hk.1 hI.size, hno⟩).2
      exact ⟨hk.1, this.trans hk.2⟩
    · rw [mf hX] at h2; exact h2
    · intro c u hc
      have := h3 c u (by rw [iU hX]; exact hc)
      rw [iU hX] at this; exact this
theorem dA {C : Ctx} {Q : Exit → St → Prop} {s : St} {c : Code} {L1 : List AO} {ob : AO} (hL : s.L = L1 ++ [ob]) (hB : C.bL.length ≤ L1.length) (he : s.env.all (fun x => mz L1.length x.2) = true) (ho : L1.all (jt L1.length) = true)
    (h : AWP C c Q { env := s.env, L := L1 }) : AWP C c Q s := by
  refine tp L1.length (ob := ob) (by rw [hL]; simp) ?_
  refine tn (L1 := L1) (ver := ob.ver) (n := L1.length) ?_ rfl hB he ho h
  show s.L.set L1.length _ = _
  rw [hL, List.set_append]
  simp
section
variable {C C' : Ctx} {L L' : List AO} {σ σ' : Sig} {w : World} {n : Nat}
end
theorem kb {k : Nat} {x : AO} : ∀ (u : List (Nat × AO)) (L : List AO), bE L (u ++ [(k, x)]) = (bE L u).set k x
  | [], L => rfl
  | (j, ob) :: u, L => by simp only [List.cons_append, bE]; exact kb u _

theorem nz {C : Ctx} {L : List AO} {σ : Sig} {w : World} {k b : Nat} {T : TypeId} {cs cs' : List AC} {vs : List Value} (h : INV C L σ w) (hk : L[k]? = some (.vars T cs)) (e1 : σ k = .pointer (some ⟨b, 0, none⟩)) (e2 : w.heap[b]? = some (.cells (List.toArray vs) T (0, 0)))
    (hall : aV (RC C L σ w) cs' vs) : INV C (L.set k (.vars T cs')) σ w ∧ cX C L σ w (L.set k (.vars T cs')) σ w := by
  have hlt : k < L.length := (List.getElem?_eq_some_iff.1 hk).1
  exact cu (C := C) (L' := L.set k (.vars T cs')) (σ' := σ) (w' := w) k h (Nat.le_refl _) rfl rfl rfl (fun _ _ _ => rfl) (fun j hj => by rw [List.getElem?_set_ne (Ne.symm hj)]) (fun _ _ => rfl)
    (fun ob e' => by rw [hk] at e'; cases e'; exact ⟨.vars T cs', by simp [hlt], Nat.le_refl _, fun _ _ => ⟨rfl, rfl, rfl, trivial⟩⟩)
    (fun b ⟨ob, e1, e2, e3⟩ => by simp [hlt] at e1; subst e1; exact .inl ⟨_, hk, rfl, e3⟩)
    (fun hp _ ob e' => by simp [hlt] at e'; subst e'; exact ⟨b, vs, e1, e2, hall.mono fun c u hc => hp c u hc⟩)
theorem iw {C : Ctx} {Q : Exit → St → Prop} {s : St} {c : Code} (k j sz : Nat) (e : TypeId) {T : TypeId} {cs : List AC} (ht : 0 < sz) (hk : s.L[k]? = some (.vars T cs)) (hj : cs[j]? = some .nils)
    (h : AWP C c Q { env := s.env, L := s.L.set k (.vars T (cs.set j (.rwc s.L.length 0))) ++ [.rowc e sz 0 []] }) : AWP C c Q s := by
  intro σ a w hr
  have hlt : k < s.L.length := (List.getElem?_eq_some_iff.1 hk).1
  have hg : ∀ ob', s.L[s.L.length]? = some ob' → False := fun ob' e => by rw [List.getElem?_eq_none (Nat.le_refl _)] at e; cases e
  have hlast : (s.L ++ [AO.rowc e sz 0 []])[s.L.length]? = some (.rowc e sz 0 []) := by simp
  have t1 := cu (C := C) (L' := s.L ++ [.rowc e sz 0 []]) (σ' := sup σ s.L.length (.slice none 0 0)) (w' := w) s.L.length hr.inv (Nat.le_refl _) rfl rfl rfl (fun _ _ _ => rfl)
    (fun k hk => by
      rcases Nat.lt_or_ge k s.L.length with hl | hl
      · rw [List.getElem?_append_left hl]
      · rw [List.getElem?_eq_none (by simp; omega), List.getElem?_eq_none hl])
    (fun k hk => cH σ _ hk) (fun ob' e => (hg ob' e).elim)
    (fun b ⟨ob', e1, e2, e3⟩ => by rw [aO] at e3; cases e3)
    (fun hp _ ob' e' => by rw [hlast] at e'; cases e'; exact ⟨[], 0, ⟨by simp, .inl ⟨by rw [aO], rfl⟩⟩, ht, by simp, trivial⟩)
  generalize hL1 : s.L ++ [AO.rowc e sz 0 []] = L1 at *
  generalize hs1 : sup σ s.L.length (.slice none 0 0) = σ1 at *
  have hk' : L1[k]? = some (.vars T cs) := by rw [← hL1, List.getElem?_append_left hlt]; exact hk
  have hlt' : k < L1.length := (List.getElem?_eq_some_iff.1 hk').1
  have hσ : σ1 s.L.length = .slice none 0 0 := by rw [← hs1, aO]
  have t2 := cu (C := C) (L' := L1.set k (.vars T (cs.set j (.rwc s.L.length 0)))) (σ' := σ1) (w' := w) k t1.1 (Nat.le_refl _) rfl rfl rfl (fun _ _ _ => rfl)
    (fun i hi => by rw [List.getElem?_set_ne (Ne.symm hi)]) (fun _ _ => rfl)
    (fun ob e' => by rw [hk'] at e'; cases e'; exact ⟨.vars T (cs.set j (.rwc s.L.length 0)), by simp [hlt'], Nat.le_refl _, fun _ _ => ⟨rfl, rfl, rfl, trivial⟩⟩)
    (fun b ⟨ob, e1, e2, e3⟩ => .inl ⟨_, hk', rfl, e3⟩)
    (fun hp _ ob e' => by
      simp [hlt'] at e'
      subst e'
      obtain ⟨b, vs, e1, e2, e3⟩ := t1.1.ob k _ hk'
      refine ⟨b, vs, e1, e2, ?_⟩
      obtain ⟨u, hu, hcu⟩ := e3.at_ hj
      have hvs : vs.set j u = vs := by
        apply List.ext_getElem?
        intro i
        rw [List.getElem?_set]
        split
        · rename_i e; subst e; split
          · exact hu.symm
          · rename_i hh; exact absurd (List.getElem?_eq_some_iff.1 hu).1 hh
        · rfl
      rw [← hvs]
      have hnew : RC C L1 σ1 w (.rwc s.L.length 0) u := ⟨hcu.1, _, hlast, Nat.le_refl _, fun _ _ => ⟨⟨_, _, _, rfl⟩, by rw [hσ]; exact hcu.2⟩⟩
      exact (e3.mono fun c v hcv => hp c v hcv).set j (hp _ _ hnew))
  refine h σ1 a w ⟨?_, fun t' => ?_, hr.size, hr.defers, ?_⟩
  all_goals (have hset : s.L.set k (.vars T (cs.set j (.rwc s.L.length 0))) ++ [AO.rowc e sz 0 []] = L1.set k (.vars T (cs.set j (.rwc s.L.length 0))) := by rw [← hL1, List.set_append, if_pos hlt])
  · show INV C (s.L.set k (.vars T (cs.set j (.rwc s.L.length 0))) ++ [AO.rowc e sz 0 []]) σ1 w
    rw [hset]; exact t2.1
  · show RV C (s.L.set k (.vars T (cs.set j (.rwc s.L.length 0))) ++ [AO.rowc e sz 0 []]) σ1 w _ _
    rw [hset]; exact t2.2.rv (t1.2.rv (hr.env t'))
  · show cX C C.bL C.bσ C.bw (s.L.set k (.vars T (cs.set j (.rwc s.L.length 0))) ++ [AO.rowc e sz 0 []]) σ1 w
    rw [hset]; exact (hr.pres.trans t1.2).trans t2.2

theorem jw : ∀ (t : Ty) (d : t.den), b0 t (acs t d) = some d
  | .int k, n => by simp [acs, b0]
  | .bool, b => rfl
  | .str, s => rfl
  | .list t, xs => by simp [acs, b0]
  | .unit, _ => rfl
  | .pair a b, (x, y) => by
    have h1 := jw a x
    have h2 := jw b y
    have h3 := fD a x
    simp only [acs, b0]
    rw [List.take_append_of_le_length (by omega), List.take_of_length_le (by omega), List.drop_append_of_le_length (by omega), List.drop_eq_nil_of_le (by omega), List.nil_append, h1, h2]
theorem jf (t : Ty) : ∀ xs : List t.den, cJ t xs.length (xs.flatMap (acs t)) = some xs
  | [] => by simp [cJ]
  | x :: xs => by
    have h3 := fD t x
    simp only [List.flatMap_cons, List.length_cons, cJ]
    rw [List.take_append_of_le_length (by omega), List.take_of_length_le (by omega), List.drop_append_of_le_length (by omega), List.drop_eq_nil_of_le (by omega), List.nil_append, jw, jf t xs]
theorem o7 {C : Ctx} {L : List AO} {σ : Sig} {w : World} {k : Nat} {t : Ty} {e : TypeId} {v n : Nat} {cs : List AC} {xs : List t.den} (h : INV C L σ w) (hk : L[k]? = some (.rowc e t.size v cs)) (hc : cJ t n cs = some xs) (hl : cs.length = n * t.size) :
    INV C (L.set k (.row t e (v + 1) xs)) σ w ∧ cX C L σ w (L.set k (.row t e (v + 1) xs)) σ w := by
  have hlt : k < L.length := (List.getElem?_eq_some_iff.1 hk).1
  have hxl := cR hc
  obtain ⟨flat, m, h1, h0, hl2, h3⟩ := h.ob k _ hk
  have em : m = n := Nat.eq_of_mul_eq_mul_right h0 (hl2.symm.trans hl)
  subst em
  exact cu (C := C) (L' := L.set k (.row t e (v + 1) xs)) (σ' := σ) (w' := w) k h (Nat.le_refl _) rfl rfl rfl (fun _ _ _ => rfl) (fun j hj => by rw [List.getElem?_set_ne (Ne.symm hj)]) (fun _ _ => rfl)
    (fun ob e' => by rw [hk] at e'; cases e'; exact ⟨.row t e (v + 1) xs, by simp [hlt], Nat.le_succ _, fun _ h => by simp [AO.ver] at h⟩)
    (fun b ⟨ob, e1, e2, e3⟩ => by simp [hlt] at e1; subst e1; exact .inl ⟨_, hk, rfl, e3⟩)
    (fun hp _ ob e' => by simp [hlt] at e'; subst e'; exact ⟨flat, by rw [hxl]; exact h1, h0, fun i hi => fw hc (h3.mono fun c u hcu => hp c u hcu) i (by omega)⟩)
theorem fH {C : Ctx} {Q : Exit → St → Prop} {s : St} {c : Code} (k m j : Nat) (t : Ty) (n : Nat) {e T : TypeId} {v : Nat} {cs cv : List AC} {xs : List t.den} (hm : s.L[m]? = some (.vars T cv)) (hj : cv[j]? = some (.rwc k v)) (hk : s.L[k]? = some (.rowc e t.size v cs)) (hc : cJ t n cs = some xs) (hl : cs.length = n * t.size)
    (h : AWP C c Q { env := s.env, L := (s.L.set k (.row t e (v + 1) xs)).set m (.vars T (cv.set j (.row k (v + 1)))) }) : AWP C c Q s := by
  intro σ a w hr
  have hlt : k < s.L.length := (List.getElem?_eq_some_iff.1 hk).1
  have hkm : m ≠ k := by rintro rfl; rw [hk] at hm; cases hm
  obtain ⟨i1, i2⟩ := o7 hr.inv hk hc hl
  obtain ⟨b, vs, e1, e2, e3⟩ := hr.inv.ob m _ hm
  have hm1 : (s.L.set k (.row t e (v + 1) xs))[m]? = some (.vars T cv) := by rw [List.getElem?_set_ne (Ne.symm hkm)]; exact hm
  obtain ⟨u, hu, hcu⟩ := e3.at_ hj
  have hvs : vs.set j u = vs := by
    apply List.ext_getElem?
    intro i
    rw [List.getElem?_set]
    split
    · rename_i e; subst e; split
      · exact hu.symm
      · rename_i hh; exact absurd (List.getElem?_eq_some_iff.1 hu).1 hh
    · rfl
  have hnew : RC C (s.L.set k (.row t e (v + 1) xs)) σ w (.row k (v + 1)) u := by
    obtain ⟨q1, ob, q2, q3, q4⟩ := hcu
    rw [hk] at q2; cases q2
    exact ⟨q1, .row t e (v + 1) xs, by simp [hlt], Nat.le_refl _, fun _ _ => ⟨⟨_, _, _, rfl⟩, (q4 rfl rfl).2⟩⟩
  obtain ⟨j1, j2⟩ := nz i1 hm1 e1 e2 (cs' := cv.set j (.row k (v + 1))) (by rw [← hvs]; exact (e3.mono fun c v hcv => i2 c v hcv).set j hnew)
  exact h σ a w ⟨j1, fun t'' => j2.rv (i2.rv (hr.env t'')), hr.size, hr.defers, (hr.pres.trans i2).trans j2⟩

theorem kA {k ver : Nat} {t : Ty} {xs : List t.den} : ∀ {cs : List AC}, (∀ c, c ∈ cs → ∀ k' v, c = .row k' v → k' ≠ k) → cs.map (frC k ver t xs) = cs
  | [], _ => rfl
  | c :: cs, h => by
    rw [List.map_cons, kA fun c' hc' => h c' (List.mem_cons_of_mem _ hc')]
    congr 1
    cases c with
    | row k' v => simp only [frC]; rw [if_neg fun hh => h _ (List.mem_cons_self ..) k' v rfl hh.1]
    | _ => rfl
end Go.AV
