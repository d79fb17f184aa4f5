/- The contract of slices.Compact on an own row of ints, out of the shelf's contract. -/
import Derived.Test.YtoahhklogohehaaLy
import Derived.Shelf.Slices.CompactI
set_option linter.unusedSimpArgs false
set_option linter.unusedVariables false
namespace Go.AV
open Go Go.RowKit Go.Sort
def rY (P : Program) (f : FuncId) : Prop := fv P f ∧ ∀ (blk off cap : Nat) (zs : List Int) (w : World), Holds (Value.int .i64) w blk off zs.toArray → zs.length ≤ 9223372036854775807 → zs.length ≤ cap →
    Calls P f #[.slice (some ⟨blk, off, none⟩) zs.length cap] w fun e w' => e = .returned (.slice (some ⟨blk, off, none⟩) (Lib.compact zs).length cap) ∧
      ∃ q, w' = putRow (Value.int .i64) (Sort.ahead w q) blk off (Lib.compact zs ++ List.replicate (zs.length - (Lib.compact zs).length) 0).toArray
theorem lj {P : Program} {L0 : List AO} {f : FuncId} {k ver : Nat} {e : TypeId} {xs : List Int} (hs : rY P f) (hL : L0[k]? = some (.row (.int .i64) e ver xs)) (h0 : 0 < xs.length) (h1 : xs.length ≤ 9223372036854775807) (hle : (Lib.compact xs).length ≤ xs.length) :
    ez P L0 f [.one (.row k ver)] { av := .one (.row k (ver + 1)), upd := [(k, .row (.int .i64) e (ver + 1) (Lib.compact xs))], fp := [k] } := by
  refine ⟨hs.1, fun C L σ w vs hP hi ha hfp hlen => ?_⟩
  have hob : L[k]? = some (.row (.int .i64) e ver xs) := by rw [hfp k (by simp)]; exact hL
  cases vs with
  | nil => exact ha.elim
  | cons v vs =>
  cases vs with
  | cons _ _ => exact ha.2.elim
  | nil =>
  obtain ⟨hv, _⟩ := ha
  obtain ⟨ob, q1, q2, q3⟩ := hv.2
  rw [hob] at q1; cases q1
  obtain ⟨_, hvs⟩ := q3 rfl rfl
  obtain ⟨flat, ho, hp, hd⟩ := hi.ob k _ hob
  have hfl := ho.1
  have hsz : (Ty.int IntKind.i64).size = 1 := rfl
  rw [hsz] at hfl hd
  have hflat := pw (by omega) hd
  rcases ho.2 with ⟨hh, hz⟩ | ⟨g, cap, cur, hvg, hbase, hg, hn, hcap, hcs, htk⟩
  · omega
  · rw [hsz, hflat, Nat.mul_one] at htk
    rw [hsz, Nat.mul_one] at hcs
    have hH := holds_of_blockI hg htk
    have hlt : g < w.heap.size := (Array.getElem?_eq_some_iff.1 hg).1
    have hklt : k < L.length := (List.getElem?_eq_some_iff.1 hob).1
    have hown : own L σ k g := ⟨_, hob, rfl, by rw [hvg]; rfl⟩
    have hcall := hs.2 g 0 cap xs w hH h1 hn
    rw [hvs, hvg]
    refine hcall.mono fun en w' hh => ?_
    obtain ⟨e1, n, e2⟩ := hh
    refine ⟨_, e1, ?_⟩
    have e3 : w' = grow (putRow (Value.int .i64) (Sort.ahead w n) g 0 (Lib.compact xs ++ List.replicate (xs.length - (Lib.compact xs).length) 0).toArray) #[] := by rw [grow_empty]; exact e2
    subst e3
    obtain ⟨g1, g2, g3, g4, g5⟩ := grownBy_sortedI (w := w) (g := g) (n := n) (os := #[]) (Lib.compact xs ++ List.replicate (xs.length - (Lib.compact xs).length) 0).toArray
    have hll : (Lib.compact xs ++ List.replicate (xs.length - (Lib.compact xs).length) 0).length = xs.length := by rw [List.length_append, List.length_replicate]; omega
    refine dj (σ' := sup σ k (.slice (some ⟨g, 0, none⟩) (Lib.compact xs).length cap)) hi hob g4 g1 g2 g3 (fun b hb hno => g5 b hb (fun e => hno ((Option.some.inj e) ▸ hown))) (fun j hj => dP σ _ hj) ⟨Nat.le_succ _, fun _ h => by simp [AO.ver] at h⟩
      (fun _ j hj => .inl (by rw [b7] at hj; cases hj; exact hown)) (fun hp _ => ?_) (fun _ _ => ?_)
    · refine ⟨(Lib.compact xs).map (Value.int .i64), ?_, by decide, fun i hi2 => ?_⟩
      · rw [b7]
        refine ⟨by simp [hsz], .inr ⟨g, cap, _, rfl, Nat.zero_le _, heap_sortedI _ hg, by omega, hcap, by rw [hsz, Nat.mul_one]; simp [putCells, hcs], ?_⟩⟩
        have ht := take_putCellsI cur (Lib.compact xs ++ List.replicate (xs.length - (Lib.compact xs).length) 0) (by omega)
        rw [hsz, Nat.mul_one]
        have := congrArg (List.take (Lib.compact xs).length) ht
        rw [List.take_take, hll, Nat.min_eq_left hle] at this
        rw [this, ← List.map_take, List.take_left]
      · have hi3 : i < ((Lib.compact xs).map (Value.int .i64)).length := by simpa using hi2
        show Dat _ _ (.int .i64) _ (((List.map (Value.int .i64) (Lib.compact xs)).drop (i * 1)).take 1)
        rw [Nat.mul_one, List.drop_eq_getElem_cons hi3]
        have e2 : (Lib.compact xs).getD i 0 = (Lib.compact xs)[i] := by rw [List.getD, List.getElem?_eq_getElem hi2]; rfl
        show Dat _ _ (.int .i64) ((Lib.compact xs).getD i 0) [_]
        rw [e2]; simp [Dat]
    · refine ⟨rfl, .row (.int .i64) e (ver + 1) (Lib.compact xs), by simp [hklt], Nat.le_refl _, fun _ _ => ⟨⟨_, _, _, rfl⟩, by rw [b7]⟩⟩
section
variable {C C' : Ctx} {L : List AO} {σ : Sig} {w : World}
theorem lS (hX : C'.X = C.X) : avd C' L σ = avd C L σ := by funext b; simp only [avd, hX]
theorem nf (hX : C'.X = C.X) : @iY C' L σ w = @iY C L σ w := by funext t d off v; simp only [iY, lS hX]
theorem v6 (hX : C'.X = C.X) : RFN C' L σ w = RFN C L σ w := by funext f ds v; simp only [RFN, lS hX, nf hX]
theorem ye (hX : C'.X = C.X) : nS C' L σ w = nS C L σ w := by
  funext c u; cases c <;> simp only [nS, nf hX, v6 hX]
theorem oN (hX : C'.X = C.X) : RC C' L σ w = RC C L σ w := by
  funext c u; cases c <;> simp only [RC, RC0, lS hX, nf hX, v6 hX, ye hX]
theorem Ai (hX : C'.X = C.X) : RV1 C' L σ w = RV1 C L σ w := by
  funext c u; cases c <;> simp only [RV1, oN hX]
theorem wV (hX : C'.X = C.X) : RV C' L σ w = RV C L σ w := by
  funext c u; cases c <;> simp only [RV, Ai hX]
theorem wJ (hX : C'.X = C.X) (hP : C'.P = C.P) (o : Nat) (ob : AO) : OB C' L σ w o ob = OB C L σ w o ob := by
  cases ob <;> simp only [OB, oN hX, lS hX, hP]
end
theorem kG {P : Program} {f : FuncId} {fn : Func} {c : Code} {args : List AV} (L0 : List AO) (out : Out) (hf : P.funcs[f]? = some fn) (hb : fn.body = some c) (hname : (fn.name == "runtime.NumGoroutine") = false) (hn : args.length ≤ fn.ntmps)
    (hfp : ∀ k, k < L0.length → k ∈ out.fp)
    (h : ∀ C, C.P = P → C.N = fn.ntmps → C.bL = L0 → AWP C c (vB P fn fun s' v => s'.L = app L0 out ∧ v = out.av) { env := bc 0 args, L := L0 }) : ez P L0 f args out := by
  refine ⟨⟨fn, hf, hname, by rw [hb]; rfl⟩, fun C L σ w vs hP hI ha hfp2 hlen => ?_⟩
  have hL : L = L0 := List.ext_getElem? fun k => by
    by_cases hk : k < L0.length
    · exact hfp2 k (hfp k hk)
    · rw [List.getElem?_eq_none (by omega), List.getElem?_eq_none (by omega)]
  subst hL
  let C2 : Ctx := { P := P, X := C.X, keep := fun b => b < w.heap.size ∧ ¬ ∃ o, own L σ o b, w0 := w, N := fn.ntmps, bL := L, bσ := σ, bw := w }
  have hX : C2.X = C.X := rfl
  have hP2 : C2.P = C.P := hP.symm
  have hI2 : INV C2 L σ w := ⟨fun o ob e => by rw [wJ hX hP2]; exact hI.ob o ob e, hI.inj, fun o b ho => ⟨fun hk => hk.2 ⟨o, ho⟩, (hI.off o b ho).2⟩, fun b hb => ⟨hb.1, rfl⟩, fun b hb => Nat.lt_of_lt_of_le (hI.xlt b hb) hI.size, Nat.le_refl _, rfl, rfl, rfl⟩
  have hargs : bn (RV C2 L σ w) args vs := by rw [wV hX]; exact ha
  have hl := hargs.length
  refine (calls_of_wp hf hb (P := P) (R := fun e w' => ∃ (s' : St) (σ' : Sig) (v : AV) (u : Value), e = .returned u ∧ (s'.L = app L out ∧ v = out.av) ∧ INV C2 s'.L σ' w' ∧ RV C2 s'.L σ' w' v u ∧ dL C2 L σ w s'.L σ' w')
    (wp_mono (h C2 rfl rfl rfl σ _ w ⟨hI2, fun t => ?_, by simp [C2]; omega, rfl, dL.refl _ _ _ _⟩) fun e a' w' ⟨s', σ', h1, h2⟩ => ?_)).mono fun e w' hh => ?_
  · rw [iG, if_pos (Nat.zero_le _), Nat.sub_zero]
    cases ht : args[t]? with
    | none => trivial
    | some a =>
      obtain ⟨u, hu, hru⟩ := hargs.at_ ht
      have : (vs.toArray ++ Array.replicate (fn.ntmps - vs.toArray.size) undef).getD t undef = u := by
        have htl : t < vs.length := (List.getElem?_eq_some_iff.1 hu).1
        simp only [Array.getD_eq_getD_getElem?]
        rw [Array.getElem?_append_left (by simpa using htl)]
        simp [hu]
      rw [this]
      exact hru
  · obtain ⟨he, v, hv, hR⟩ := h1
    obtain ⟨u, hu, hru⟩ := kw h2 hv
    have hfin : a'.defers = [] ∧ ∃ v, (results fn a'.tmps).run P w' = .ok v w' ∧ ∃ (s' : St) (σ' : Sig) (v' : AV) (u : Value), Ending.returned v = .returned u ∧ (s'.L = app L out ∧ v' = out.av) ∧ INV C2 s'.L σ' w' ∧ RV C2 s'.L σ' w' v' u ∧ dL C2 L σ w s'.L σ' w' :=
      ⟨h2.defers, u, hu, s', σ', v, u, rfl, hR, h2.inv, hru, h2.pres⟩
    rcases he with rfl | rfl
    · exact hfin
    · exact hfin
  · obtain ⟨s', σ', v, u, rfl, ⟨hLf, rfl⟩, h1, h2, h3⟩ := hh
    rw [hLf] at h1 h2 h3
    refine ⟨u, rfl, σ', ⟨fun o ob e => ?_, h1.inj, fun o b ho => ?_, fun b hb => ?_, hI.xlt, Nat.le_trans hI.size h1.size, h1.os.trans hI.os, h1.tape.trans hI.tape, h1.output.trans hI.output⟩, ?_, ?_⟩
    · have := h1.ob o ob e
      rw [wJ hX hP2] at this; exact this
    · obtain ⟨g1, g2⟩ := h1.off o b ho
      refine ⟨fun hk => ?_, g2⟩
      have hlt := (hI.kept b hk).1
      have hsz := hI.size
      have hno : ¬ ∃ o, own L σ o b := fun ⟨o', ho'⟩ => (hI.off o' b ho').1 hk
      exact g1 ⟨Nat.lt_of_lt_of_le hlt hsz, hno⟩
    · have hk := hI.kept b hb
      have hno : ¬ ∃ o, own L σ o b := fun ⟨o', ho'⟩ => (hI.off o' b ho').1 hb
      have := (h1.kept b ⟨Nat.lt_of_lt_of_le hk.1 hI.size, hno⟩).2
      exact ⟨hk.1, this.trans hk.2⟩
    · rw [wV hX] at h2; exact h2
    · intro c u hc
      have := h3 c u (by rw [oN hX]; exact hc)
      rw [oN hX] at this; exact this
theorem cQ {C : Ctx} {Q : Exit → St → Prop} {s : St} {c : Code} {L1 : List AO} {ob : AO} (hL : s.L = L1 ++ [ob]) (hB : C.bL.length ≤ L1.length) (he : s.env.all (fun x => gL L1.length x.2) = true) (ho : L1.all (cR L1.length) = true)
    (h : AWP C c Q { env := s.env, L := L1 }) : AWP C c Q s := by
  refine kC L1.length (ob := ob) (by rw [hL]; simp) ?_
  refine cF (L1 := L1) (ver := ob.ver) (n := L1.length) ?_ rfl hB he ho h
  show s.L.set L1.length _ = _
  rw [hL, List.set_append]
  simp
section
variable {C C' : Ctx} {L L' : List AO} {σ σ' : Sig} {w : World} {n : Nat}
theorem sk (ha : ∀ b, b < w.heap.size → avd C' L' σ' b → avd C L σ b) {t : Ty} {d : t.den} {off : Nat} {u : Value} (h : iY C L σ w t d off u) : iY C' L' σ' w t d off u := by
  obtain ⟨b, o, cs, e, h1, h2, h3, h4⟩ := h
  exact ⟨b, o, cs, e, fun hx => h1 (ha b h2 hx), h2, h3, h4.keep (Nat.le_refl _) (fun _ _ _ => rfl) ha⟩
theorem oJ (ha : ∀ b, b < w.heap.size → avd C' L' σ' b → avd C L σ b) (hL : ∀ k, k < n → L'[k]? = L[k]?) (hσ : ∀ k, k < n → σ' k = σ k) {c : AC} {u : Value} (hf : bt n c = true) (h : RC C L σ w c u) : RC C' L' σ' w c u := by
  obtain ⟨h1, h2⟩ := h
  refine ⟨h1, ?_⟩
  have hRP : ∀ k ver i off u, k < n → RP L σ k ver i off u → RP L' σ' k ver i off u := by
    rintro k ver i off u hk ⟨ob, e, r⟩
    exact ⟨ob, by rw [hL k hk]; exact e, by rw [hσ k hk]; exact r⟩
  cases c with
  | row k v =>
    simp only [bt, decide_eq_true_eq] at hf
    obtain ⟨ob, e, r⟩ := h2
    exact ⟨ob, by rw [hL k hf]; exact e, by rw [hσ k hf]; exact r⟩
  | ptr k v i off => simp only [bt, decide_eq_true_eq] at hf; exact hRP _ _ _ _ _ hf h2
  | mpv k =>
    simp only [bt, decide_eq_true_eq] at hf
    obtain ⟨ob, e, r⟩ := h2
    exact ⟨ob, by rw [hL k hf]; exact e, by rw [hσ k hf]; exact r⟩
  | rwc k v =>
    simp only [bt, decide_eq_true_eq] at hf
    obtain ⟨ob, e, r⟩ := h2
    exact ⟨ob, by rw [hL k hf]; exact e, by rw [hσ k hf]; exact r⟩
  | fn f caps =>
    obtain ⟨vs, e, hall⟩ := h2
    refine ⟨vs, e, hall.weaken fun c u hc hcu => ?_⟩
    have := List.all_eq_true.1 hf c hc
    cases c with
    | ref k => simp only [decide_eq_true_eq] at this; exact ⟨hcu.1, hRP _ _ _ _ _ this hcu.2⟩
    | pat t d => exact ⟨hcu.1, sk ha hcu.2⟩
    | pfn f ds => exact ⟨hcu.1, kP ha hcu.2⟩
  | list t xs => exact Dat.keep (t := .list t) (Nat.le_refl _) (fun _ _ _ => rfl) ha h2
  | pat t d off => exact sk ha h2
  | pfn f ds => exact kP ha h2
  | _ => exact h2
theorem pv (ha : ∀ b, b < w.heap.size → avd C' L' σ' b → avd C L σ b) (hL : ∀ k, k < n → L'[k]? = L[k]?) (hσ : ∀ k, k < n → σ' k = σ k) {v : AV} {u : Value} (hf : kf n v = true) (h : RV1 C L σ w v u) : RV1 C' L' σ' w v u := by
  cases v with
  | undef => trivial
  | void => exact h
  | one c => exact oJ ha hL hσ hf h
  | agg cs => obtain ⟨vs, e, hall⟩ := h; exact ⟨vs, e, hall.weaken fun c u hc hcu => oJ ha hL hσ (List.all_eq_true.1 hf c hc) hcu⟩
  | tup _ => exact h.elim
theorem xh (ha : ∀ b, b < w.heap.size → avd C' L' σ' b → avd C L σ b) (hL : ∀ k, k < n → L'[k]? = L[k]?) (hσ : ∀ k, k < n → σ' k = σ k) {v : AV} {u : Value} (hf : gL n v = true) (h : RV C L σ w v u) : RV C' L' σ' w v u := by
  cases v with
  | tup vs => obtain ⟨us, e, hall⟩ := h; exact ⟨us, e, hall.weaken fun c u hc hcu => pv ha hL hσ (List.all_eq_true.1 hf c hc) hcu⟩
  | undef => trivial
  | void => exact h
  | one c => exact pv (v := .one c) ha hL hσ hf h
  | agg cs => exact pv (v := .agg cs) ha hL hσ hf h
theorem mS {v : AV} {u : Value} (h : RV1 C L σ w v u) : kf L.length v = true := by
  cases v with
  | undef => rfl
  | void => rfl
  | one c => exact mg h
  | agg cs =>
    obtain ⟨vs, e, hall⟩ := h
    refine List.all_eq_true.2 fun c hc => ?_
    obtain ⟨i, hi⟩ := List.getElem?_of_mem hc
    obtain ⟨u, _, hu⟩ := hall.at_ hi
    exact mg hu
  | tup _ => exact h.elim
theorem zH {v : AV} {u : Value} (h : RV C L σ w v u) : gL L.length v = true := by
  cases v with
  | tup vs =>
    obtain ⟨us, e, hall⟩ := h
    refine List.all_eq_true.2 fun c hc => ?_
    obtain ⟨i, hi⟩ := List.getElem?_of_mem hc
    obtain ⟨u, _, hu⟩ := hall.at_ hi
    exact mS hu
  | undef => rfl
  | void => rfl
  | one c => exact mS (v := .one c) h
  | agg cs => exact mS (v := .agg cs) h
theorem nP {E : List AO} : ∀ (u : List (Nat × AO)) (A : List AO), (∀ p, p ∈ u → p.1 < A.length) → bH (A ++ E) u = bH A u ++ E
  | [], A, _ => rfl
  | (k, ob) :: u, A, h => by
    simp only [bH]
    rw [List.set_append_left _ _ (h (k, ob) (List.mem_cons_self ..))]
    exact nP u _ fun p hp => by rw [List.length_set]; exact h p (List.mem_cons_of_mem _ hp)
theorem mz {k : Nat} {x y : AO} : ∀ (u : List (Nat × AO)) (L : List AO), (bH (L.set k y) u).set k x = (bH L u).set k x
  | [], L => by simp only [bH]; rw [List.set_set]
  | (j, ob) :: u, L => by
    simp only [bH]
    by_cases e : j = k
    · subst e; rw [List.set_set]
    · rw [List.set_comm _ _ (fun h => e h.symm)]; exact mz u _
end
theorem jJ {k : Nat} {x : AO} : ∀ (u : List (Nat × AO)) (L : List AO), bH L (u ++ [(k, x)]) = (bH L u).set k x
  | [], L => rfl
  | (j, ob) :: u, L => by simp only [List.cons_append, bH]; exact jJ u _

theorem iK {P : Program} {f : FuncId} {args : List AV} {A E : List AO} {out : Out} (h : ez P A f args out) (hA : A.all (cR A.length) = true) (hargs : args.all (gL A.length) = true) (hnew : out.new = [])
    (hu : ∀ p, p ∈ out.upd → p.1 < A.length) (hfp : ∀ k, k < A.length → k ∈ out.fp) : ez P (A ++ E) f args out := by
  refine ⟨h.1, fun C L σ w vs hP hI ha hfp2 hlen => ?_⟩
  have hLA : ∀ k, k < A.length → L[k]? = A[k]? := fun k hk => by rw [hfp2 k (hfp k hk), List.getElem?_append_left hk]
  have hlen' : L.length = A.length + E.length := by rw [hlen, List.length_append]
  have hL : L = A ++ L.drop A.length := List.ext_getElem? fun k => by
    rcases Nat.lt_or_ge k A.length with hk | hk
    · rw [List.getElem?_append_left hk, hLA k hk]
    · rw [List.getElem?_append_right hk, List.getElem?_drop]; congr 1; omega
  generalize hE' : L.drop A.length = E' at hL
  subst hL
  clear hE'
  have hLE : ∀ (B : List AO) k, B.length = A.length → A.length ≤ k → (B ++ E')[k]? = (A ++ E')[k]? := fun B k hB hk => by
    rw [List.getElem?_append_right (by omega), List.getElem?_append_right hk, hB]
  let C2 : Ctx := { P := P, X := fun b => C.X b ∨ ∃ o, A.length ≤ o ∧ own (A ++ E') σ o b, keep := fun b => b < w.heap.size ∧ ¬ ∃ o, o < A.length ∧ own (A ++ E') σ o b, w0 := w, N := C.N, bL := [], bσ := σ, bw := w }
  have hownA : ∀ o b, own A σ o b ↔ o < A.length ∧ own (A ++ E') σ o b := by
    intro o b
    constructor
    · rintro ⟨ob, q1, q2, q3⟩
      have ho := (List.getElem?_eq_some_iff.1 q1).1
      exact ⟨ho, ob, by rw [hLA o ho]; exact q1, q2, q3⟩
    · rintro ⟨ho, ob, q1, q2, q3⟩
      exact ⟨ob, by rw [← hLA o ho]; exact q1, q2, q3⟩
  have hav : ∀ b, avd C2 A σ b ↔ avd C (A ++ E') σ b := by
    intro b
    constructor
    · rintro ((hx | ⟨o, _, hb⟩) | ⟨o, hb⟩)
      · exact .inl hx
      · exact .inr ⟨o, hb⟩
      · exact .inr ⟨o, ((hownA o b).1 hb).2⟩
    · rintro (hx | ⟨o, hb⟩)
      · exact .inl (.inl hx)
      · rcases Nat.lt_or_ge o A.length with ho | ho
        · exact .inr ⟨o, (hownA o b).2 ⟨ho, hb⟩⟩
        · exact .inl (.inr ⟨o, ho, hb⟩)
  have hcut : ∀ {c : AC} {u : Value}, bt A.length c = true → RC C (A ++ E') σ w c u → RC C2 A σ w c u := fun hf h => oJ (n := A.length) (fun b _ hb => (hav b).1 hb) (fun k hk => (hLA k hk).symm) (fun _ _ => rfl) hf h
  have hI2 : INV C2 A σ w := by
    refine ⟨fun o ob e => ?_, fun o o' b q1 q2 => hI.inj o o' b ((hownA o b).1 q1).2 ((hownA o' b).1 q2).2, fun o b q => ?_, fun b hb => ⟨hb.1, rfl⟩, fun b hb => ?_, Nat.le_refl _, rfl, rfl, rfl⟩
    · have ho := (List.getElem?_eq_some_iff.1 e).1
      have h1 := hI.ob o ob (by rw [hLA o ho]; exact e)
      have hfo := List.all_eq_true.1 hA ob (List.mem_of_getElem? e)
      cases ob with
      | dead _ => trivial
      | vars T cs => obtain ⟨b, vs, e1, e2, e3⟩ := h1; exact ⟨b, vs, e1, e2, e3.weaken fun c u hc hcu => hcut (List.all_eq_true.1 hfo c hc) hcu⟩
      | row t e v xs => obtain ⟨flat, h2, h0, h3⟩ := h1; exact ⟨flat, h2, h0, fun i hi => (h3 i hi).keep (Nat.le_refl _) (fun _ _ _ => rfl) fun b _ hb => (hav b).1 hb⟩
      | mp T vk es => obtain ⟨b, ents, clock, e1, e2, e3, e4, e5⟩ := h1; exact ⟨b, ents, clock, e1, e2, e3, e4, by rw [hP] at e5; exact e5⟩
      | itr s pos => exact h1
      | rowc e sz v cs => obtain ⟨flat, m, h2, h0, hl0, h3⟩ := h1; exact ⟨flat, m, h2, h0, hl0, h3.weaken fun c u hc hcu => hcut (List.all_eq_true.1 hfo c hc) hcu⟩
    · obtain ⟨ho, q⟩ := (hownA o b).1 q
      refine ⟨fun hk => hk.2 ⟨o, ho, q⟩, ?_⟩
      rintro (hx | ⟨o', ho', q'⟩)
      · exact (hI.off o b q).2 hx
      · have := hI.inj o o' b q q'; omega
    · rcases hb with hx | ⟨o, _, q⟩
      · exact Nat.lt_of_lt_of_le (hI.xlt b hx) hI.size
      · exact ge hI q
  have hargs2 : bn (RV C2 A σ w) args vs := ha.weaken fun v u hv hu => xh (n := A.length) (fun b _ hb => (hav b).1 hb) (fun k hk => (hLA k hk).symm) (fun _ _ => rfl) (List.all_eq_true.1 hargs v hv) hu
  refine (h.2 C2 A σ w vs rfl hI2 hargs2 (fun _ _ => rfl) rfl).mono fun e w' ⟨v, he, σ', g1, g2, g3⟩ => ⟨v, he, ?_⟩
  have eA : app A out = bH A out.upd := by unfold app; rw [hnew, List.append_nil]
  rw [eA] at g1 g2 g3
  have eL : app (A ++ E') out = bH A out.upd ++ E' := by unfold app; rw [hnew, List.append_nil]; exact nP _ _ hu
  have hlA : (bH A out.upd).length = A.length := fq _ _
  generalize bH A out.upd = A' at g1 g2 g3 eL hlA
  let σ3 : Sig := fun k => if k < A.length then σ' k else σ k
  have hσl : ∀ k, k < A.length → σ3 k = σ' k := fun k hk => if_pos hk
  have hσg : ∀ k, A.length ≤ k → σ3 k = σ k := fun k hk => if_neg (by omega)
  have hlo : ∀ o b, o < A.length → (own (A' ++ E') σ3 o b ↔ own A' σ' o b) := by
    intro o b ho
    unfold own
    rw [List.getElem?_append_left (by omega), hσl o ho]
  have hhi : ∀ o b, A.length ≤ o → (own (A' ++ E') σ3 o b ↔ own (A ++ E') σ o b) := by
    intro o b ho
    unfold own
    rw [hLE A' o hlA ho, hσg o ho]
  have hav3 : ∀ b, avd C (A' ++ E') σ3 b ↔ avd C2 A' σ' b := by
    intro b
    constructor
    · rintro (hx | ⟨o, hb⟩)
      · exact .inl (.inl hx)
      · rcases Nat.lt_or_ge o A.length with ho | ho
        · exact .inr ⟨o, (hlo o b ho).1 hb⟩
        · exact .inl (.inr ⟨o, ho, (hhi o b ho).1 hb⟩)
    · rintro ((hx | ⟨o, ho, hb⟩) | ⟨o, hb⟩)
      · exact .inl hx
      · exact .inr ⟨o, (hhi o b ho).2 hb⟩
      · obtain ⟨ob, q1, q2⟩ := hb
        have ho := (List.getElem?_eq_some_iff.1 q1).1
        exact .inr ⟨o, (hlo o b (by omega)).2 ⟨ob, q1, q2⟩⟩
  have hcut3 : ∀ {c : AC} {u : Value}, RC C2 A' σ' w' c u → RC C (A' ++ E') σ3 w' c u := fun h => oJ (n := A.length) (fun b _ hb => (hav3 b).1 hb) (fun k hk => by rw [List.getElem?_append_left (by omega)]) hσl (by rw [← hlA]; exact mg h) h
  have hlow : ∀ {c : AC} {u : Value}, bt A.length c = true → RC C (A ++ E') σ w c u → RC C (A' ++ E') σ3 w' c u := fun hf h => hcut3 (g3 _ _ (hcut hf h))
  have hRP : ∀ k ver i off u, u.oneCell' = true → RP (A ++ E') σ k ver i off u → RP (A' ++ E') σ3 k ver i off u := by
    intro k ver i off u hu h
    rcases Nat.lt_or_ge k A.length with hk | hk
    · exact (hlow (c := .ptr k ver i off) (by simp only [bt]; exact decide_eq_true hk) ⟨hu, h⟩).2
    · obtain ⟨ob, e, r⟩ := h
      exact ⟨ob, by rw [hLE A' k hlA hk]; exact e, by rw [hσg k hk]; exact r⟩
  have hpres : dL C (A ++ E') σ w (A' ++ E') σ3 w' := by
    rintro c u ⟨hc1, hc⟩
    cases c with
    | row k v =>
      rcases Nat.lt_or_ge k A.length with hk | hk
      · exact hlow (by simp only [bt]; exact decide_eq_true hk) ⟨hc1, hc⟩
      · obtain ⟨ob, e, r⟩ := hc
        exact ⟨hc1, ob, by rw [hLE A' k hlA hk]; exact e, by rw [hσg k hk]; exact r⟩
    | ptr k v i off => exact ⟨hc1, hRP _ _ _ _ _ hc1 hc⟩
    | mpv k =>
      rcases Nat.lt_or_ge k A.length with hk | hk
      · exact hlow (by simp only [bt]; exact decide_eq_true hk) ⟨hc1, hc⟩
      · obtain ⟨ob, e, r⟩ := hc
        exact ⟨hc1, ob, by rw [hLE A' k hlA hk]; exact e, by rw [hσg k hk]; exact r⟩
    | rwc k v =>
      rcases Nat.lt_or_ge k A.length with hk | hk
      · exact hlow (by simp only [bt]; exact decide_eq_true hk) ⟨hc1, hc⟩
      · obtain ⟨ob, e, r⟩ := hc
        exact ⟨hc1, ob, by rw [hLE A' k hlA hk]; exact e, by rw [hσg k hk]; exact r⟩
    | fn f caps =>
      obtain ⟨us, e, hall⟩ := hc
      refine ⟨hc1, us, e, hall.mono fun k u hk => ?_⟩
      cases k with
      | ref k => exact ⟨hk.1, hRP k 0 0 0 u hk.1 hk.2⟩
      | pat t d => exact hlow (c := .pat t d 0) rfl hk
      | pfn f ds => exact hlow (c := .pfn f ds) rfl hk
    | _ => exact hlow rfl ⟨hc1, hc⟩
  have hblk : ∀ b, b < w.heap.size → (¬ ∃ o, o < A.length ∧ own (A ++ E') σ o b) → w'.heap[b]? = w.heap[b]? := fun b hb hno => (g1.kept b ⟨hb, hno⟩).2
  refine ⟨σ3, ?_, ?_, ?_⟩
  · rw [eL]
    refine ⟨fun o ob e => ?_, fun o o' b q1 q2 => ?_, fun o b q => ?_, fun b hb => ?_, hI.xlt, Nat.le_trans hI.size g1.size, g1.os.trans hI.os, g1.tape.trans hI.tape, g1.output.trans hI.output⟩
    · rcases Nat.lt_or_ge o A.length with ho | ho
      · rw [List.getElem?_append_left (by omega)] at e
        have h1 := g1.ob o ob e
        cases ob with
        | dead _ => trivial
        | vars T cs => obtain ⟨b, vs, e1, e2, e3⟩ := h1; exact ⟨b, vs, by rw [hσl o ho]; exact e1, e2, e3.mono fun c u hcu => hcut3 hcu⟩
        | row t e v xs => obtain ⟨flat, h2, h0, h3⟩ := h1; exact ⟨flat, by rw [hσl o ho]; exact h2, h0, fun i hi => (h3 i hi).keep (Nat.le_refl _) (fun _ _ _ => rfl) fun b _ hb => (hav3 b).1 hb⟩
        | mp T vk es => obtain ⟨b, ents, clock, e1, e2, e3, e4, e5⟩ := h1; exact ⟨b, ents, clock, by rw [hσl o ho]; exact e1, e2, e3, e4, by rw [hP]; exact e5⟩
        | itr s pos => obtain ⟨b, e1, e2⟩ := h1; exact ⟨b, by rw [hσl o ho]; exact e1, e2⟩
        | rowc e sz v cs => obtain ⟨flat, m, h2, h0, hl0, h3⟩ := h1; exact ⟨flat, m, by rw [hσl o ho]; exact h2, h0, hl0, h3.mono fun c u hcu => hcut3 hcu⟩
      · rw [hLE A' o hlA ho] at e
        have h1 := hI.ob o ob e
        have hfree : ∀ b, own (A ++ E') σ o b → w'.heap[b]? = w.heap[b]? := fun b hb1 => hblk b (ge hI hb1) fun ⟨o', ho', hb2⟩ => by have := hI.inj o o' b hb1 hb2; omega
        cases ob with
        | dead _ => trivial
        | vars T cs =>
          obtain ⟨b, vs, e1, e2, e3⟩ := h1
          refine ⟨b, vs, by rw [hσg o ho]; exact e1, ?_, e3.mono fun c u hc => hpres c u hc⟩
          rw [hfree b ⟨_, e, rfl, by rw [e1]; rfl⟩]; exact e2
        | row t e9 v xs =>
          obtain ⟨flat, h2, h0, h3⟩ := h1
          refine ⟨flat, ?_, h0, fun i hi => (h3 i hi).keep g1.size (fun b hb hna => hblk b hb fun ⟨o', _, hb2⟩ => hna (.inr ⟨o', hb2⟩)) (fun b hb hx => ?_)⟩
          · rw [hσg o ho]
            refine ⟨h2.1, ?_⟩
            rcases h2.2 with h4 | ⟨g, cap, cur, e1, hg, hh, r⟩
            · exact .inl h4
            · refine .inr ⟨g, cap, cur, e1, hg, ?_, r⟩
              rw [hfree g ⟨_, e, rfl, by rw [e1]; rfl⟩]; exact hh
          · rcases (hav3 b).1 hx with (hx | ⟨o', _, hx⟩) | ⟨o', hx⟩
            · exact .inl hx
            · exact .inr ⟨o', hx⟩
            · have hoff := (g1.off o' b hx).1
              rcases Classical.em (∃ o, o < A.length ∧ own (A ++ E') σ o b) with ⟨o2, _, h9⟩ | h9
              · exact .inr ⟨o2, h9⟩
              · exact absurd ⟨hb, h9⟩ hoff
        | mp T vk es =>
          obtain ⟨b, ents, clock, e1, e2, e3⟩ := h1
          refine ⟨b, ents, clock, by rw [hσg o ho]; exact e1, ?_, e3⟩
          rw [hfree b ⟨_, e, rfl, by rw [e1]; rfl⟩]; exact e2
        | rowc e9 sz v cs =>
          obtain ⟨flat, m, h2, h0, hl0, h3⟩ := h1
          refine ⟨flat, m, ?_, h0, hl0, h3.mono fun c u hc => hpres c u hc⟩
          rw [hσg o ho]
          refine ⟨h2.1, ?_⟩
          rcases h2.2 with h4 | ⟨g, cap, cur, e1, hg, hh, r⟩
          · exact .inl h4
          · refine .inr ⟨g, cap, cur, e1, hg, ?_, r⟩
            rw [hfree g ⟨_, e, rfl, by rw [e1]; rfl⟩]; exact hh
        | itr s pos =>
          obtain ⟨b, e1, e2⟩ := h1
          refine ⟨b, by rw [hσg o ho]; exact e1, ?_⟩
          rw [hfree b ⟨_, e, rfl, by rw [e1]; rfl⟩]; exact e2
    · rcases Nat.lt_or_ge o A.length with ho | ho <;> rcases Nat.lt_or_ge o' A.length with ho' | ho'
      · exact g1.inj o o' b ((hlo o b ho).1 q1) ((hlo o' b ho').1 q2)
      · exact absurd (.inr ⟨o', ho', (hhi o' b ho').1 q2⟩) (g1.off o b ((hlo o b ho).1 q1)).2
      · exact absurd (.inr ⟨o, ho, (hhi o b ho).1 q1⟩) (g1.off o' b ((hlo o' b ho').1 q2)).2
      · exact hI.inj o o' b ((hhi o b ho).1 q1) ((hhi o' b ho').1 q2)
    · rcases Nat.lt_or_ge o A.length with ho | ho
      · obtain ⟨k1, k2⟩ := g1.off o b ((hlo o b ho).1 q)
        refine ⟨fun hk => k1 ⟨Nat.lt_of_lt_of_le (hI.kept b hk).1 hI.size, fun ⟨o', _, h9⟩ => (hI.off o' b h9).1 hk⟩, fun hx => k2 (.inl hx)⟩
      · exact hI.off o b ((hhi o b ho).1 q)
    · have hk := hI.kept b hb
      refine ⟨hk.1, ?_⟩
      rw [hblk b (Nat.lt_of_lt_of_le hk.1 hI.size) fun ⟨o', _, h9⟩ => (hI.off o' b h9).1 hb]
      exact hk.2
  · rw [eL]
    exact xh (n := A.length) (fun b _ hb => (hav3 b).1 hb) (fun k hk => by rw [List.getElem?_append_left (by omega)]) hσl (by rw [← hlA]; exact zH g2) g2
  · rw [eL]; exact hpres

theorem nJ {C : Ctx} {L : List AO} {σ : Sig} {w : World} {k : Nat} {e : TypeId} {sz v n : Nat} {cs cs' : List AC} {flat : List Value} (h : INV C L σ w) (hk : L[k]? = some (.rowc e sz v cs)) (hf : w.ownsRow 0 e sz (σ k) n flat) (h0 : 0 < sz)
    (hl : cs'.length = n * sz) (hall : bn (RC C L σ w) cs' flat) : INV C (L.set k (.rowc e sz v cs')) σ w ∧ dL C L σ w (L.set k (.rowc e sz v cs')) σ w := by
  have hlt : k < L.length := (List.getElem?_eq_some_iff.1 hk).1
  exact dv (C := C) (L' := L.set k (.rowc e sz v cs')) (σ' := σ) (w' := w) k h (Nat.le_refl _) rfl rfl rfl (fun _ _ _ => rfl) (fun j hj => by rw [List.getElem?_set_ne (Ne.symm hj)]) (fun _ _ => rfl)
    (fun ob e' => by rw [hk] at e'; cases e'; exact ⟨.rowc e sz v cs', by simp [hlt], Nat.le_refl _, fun _ _ => ⟨rfl, rfl, rfl, _, rfl⟩⟩)
    (fun b ⟨ob, e1, e2, e3⟩ => by simp [hlt] at e1; subst e1; exact .inl ⟨_, hk, rfl, e3⟩)
    (fun hp _ ob e' => by simp [hlt] at e'; subst e'; exact ⟨flat, n, hf, h0, hl, hall.mono fun c u hc => hp c u hc⟩)
theorem jw {C : Ctx} {L : List AO} {σ : Sig} {w : World} {k b : Nat} {T : TypeId} {cs cs' : List AC} {vs : List Value} (h : INV C L σ w) (hk : L[k]? = some (.vars T cs)) (e1 : σ k = .pointer (some ⟨b, 0, none⟩)) (e2 : w.heap[b]? = some (.cells (List.toArray vs) T (0, 0)))
    (hall : bn (RC C L σ w) cs' vs) : INV C (L.set k (.vars T cs')) σ w ∧ dL C L σ w (L.set k (.vars T cs')) σ w := by
  have hlt : k < L.length := (List.getElem?_eq_some_iff.1 hk).1
  exact dv (C := C) (L' := L.set k (.vars T cs')) (σ' := σ) (w' := w) k h (Nat.le_refl _) rfl rfl rfl (fun _ _ _ => rfl) (fun j hj => by rw [List.getElem?_set_ne (Ne.symm hj)]) (fun _ _ => rfl)
    (fun ob e' => by rw [hk] at e'; cases e'; exact ⟨.vars T cs', by simp [hlt], Nat.le_refl _, fun _ _ => ⟨rfl, rfl, rfl, trivial⟩⟩)
    (fun b ⟨ob, e1, e2, e3⟩ => by simp [hlt] at e1; subst e1; exact .inl ⟨_, hk, rfl, e3⟩)
    (fun hp _ ob e' => by simp [hlt] at e'; subst e'; exact ⟨b, vs, e1, e2, hall.mono fun c u hc => hp c u hc⟩)
theorem o3 {C : Ctx} {L : List AO} {σ : Sig} {w : World} : ∀ {cs : List AC} {vs : List Value}, bn (RC C L σ w) cs vs → bn (RC C L σ w) (vs.map .exact) vs
  | [], [], _ => trivial
  | _ :: _, _ :: _, ⟨h1, h2⟩ => ⟨⟨h1.1, rfl⟩, o3 h2⟩
  | [], _ :: _, h => h.elim
  | _ :: _, [], h => h.elim
theorem jS {C : Ctx} {L : List AO} {σ : Sig} {w : World} {new : List AC} : ∀ {vs us : List Value}, bn (RC C L σ w) (vs.map .exact ++ new) us → ∃ nv, us = vs ++ nv ∧ bn (RC C L σ w) new nv
  | [], us, h => ⟨us, rfl, h⟩
  | v :: vs, u :: us, ⟨h1, h2⟩ => by
    obtain ⟨nv, e, h3⟩ := jS h2
    have e2 : u = v := h1.2
    exact ⟨nv, by rw [e, e2]; rfl, h3⟩
  | _ :: _, [], h => h.elim

theorem i7 {P : Program} {f : FuncId} {args : List AV} {r : AV} {L0 : List AO} {k : Nat} {e : TypeId} {sz v v' : Nat} {cs new : List AC} {u : List (Nat × AO)} {fp : List Nat} (hk : L0[k]? = some (.rowc e sz v cs)) (hkf : k ∈ fp)
    (h : ∀ fl : List Value, fl.length = cs.length → ez P (L0.set k (.rowc e sz v (fl.map .exact))) f args { av := r, upd := u ++ [(k, .rowc e sz v' (fl.map .exact ++ new))], fp := fp }) :
    ez P L0 f args { av := r, upd := u ++ [(k, .rowc e sz v' (cs ++ new))], fp := fp } := by
  refine ⟨(h (List.replicate cs.length undef) (by simp)).1, fun C L σ w vs hP hI ha hfp hlen => ?_⟩
  have hkL : L[k]? = some (.rowc e sz v cs) := by rw [hfp k hkf]; exact hk
  have hlt : k < L.length := (List.getElem?_eq_some_iff.1 hkL).1
  obtain ⟨flat, n, q1, q2, q3, q4⟩ := hI.ob k _ hkL
  have hfl : flat.length = cs.length := q4.length.symm
  obtain ⟨i1, i2⟩ := nJ hI hkL q1 q2 (cs' := flat.map .exact) (by rw [List.length_map, hfl, q3]) (o3 q4)
  refine ((h flat hfl).2 C _ σ w vs hP i1 (ha.mono fun a b hab => i2.rv hab) (fun j hj => ?_) (by simpa using hlen)).mono fun e' w' ⟨v9, he, σ', g1, g2, g3⟩ => ⟨v9, he, ?_⟩
  · by_cases ej : j = k
    · subst ej
      rw [List.getElem?_set_self hlt, List.getElem?_set_self (by omega)]
    · rw [List.getElem?_set_ne (Ne.symm ej), List.getElem?_set_ne (Ne.symm ej)]; exact hfp j hj
  · have e1 : app (L.set k (.rowc e sz v (flat.map .exact))) { av := r, upd := u ++ [(k, .rowc e sz v' (flat.map .exact ++ new))], fp := fp } = (bH L u).set k (.rowc e sz v' (flat.map .exact ++ new)) := by
      unfold app; simp only [List.append_nil]; rw [jJ, mz]
    have e2 : app L { av := r, upd := u ++ [(k, .rowc e sz v' (cs ++ new))], fp := fp } = ((bH L u).set k (.rowc e sz v' (flat.map .exact ++ new))).set k (.rowc e sz v' (cs ++ new)) := by
      unfold app; simp only [List.append_nil]; rw [jJ, List.set_set]
    rw [e1] at g1 g2 g3
    have hlt2 : k < (bH L u).length := by rw [fq]; exact hlt
    have hk2 : ((bH L u).set k (.rowc e sz v' (flat.map .exact ++ new)))[k]? = some (.rowc e sz v' (flat.map .exact ++ new)) := by rw [List.getElem?_set_self hlt2]
    obtain ⟨flat', n', p1, p2, p3, p4⟩ := g1.ob k _ hk2
    obtain ⟨nv, hfl', hnew⟩ := jS p4
    have hcs : bn (RC C ((bH L u).set k (.rowc e sz v' (flat.map .exact ++ new))) σ' w') cs flat := q4.mono fun c u hc => g3 c u (i2 c u hc)
    obtain ⟨j1, j2⟩ := nJ g1 hk2 p1 p2 (cs' := cs ++ new) (by rw [← p3]; simp [hfl]) (by rw [hfl']; exact hcs.append hnew)
    refine ⟨σ', by rw [e2]; exact j1, by rw [e2]; exact j2.rv g2, by rw [e2]; exact (i2.trans g3).trans j2⟩

theorem jC {P : Program} {f : FuncId} {args : List AV} {r : AV} {L0 : List AO} {k : Nat} {T : TypeId} {cs : List AC} {c : AC} {fp : List Nat} (hk : L0[k]? = some (.vars T (cs ++ [c]))) (hkf : k ∈ fp)
    (h : ∀ x : Value, ez P (L0.set k (.vars T (cs ++ [.exact x]))) f args { av := r, upd := [(k, .vars T (cs ++ [.exact x]))], fp := fp }) :
    ez P L0 f args { av := r, upd := [(k, .vars T (cs ++ [c]))], fp := fp } := by
  refine ⟨(h undef).1, fun C L σ w vs hP hI ha hfp hlen => ?_⟩
  have hkL : L[k]? = some (.vars T (cs ++ [c])) := by rw [hfp k hkf]; exact hk
  have hlt : k < L.length := (List.getElem?_eq_some_iff.1 hkL).1
  obtain ⟨b, us, q1, q2, q4⟩ := hI.ob k _ hkL
  obtain ⟨us1, us2, eus, p1, p2⟩ := bn.append_inv q4
  obtain ⟨x, ex, p3⟩ := p2.one
  subst ex eus
  have hxx : RC C L σ w (.exact x) x := ⟨p3.1, rfl⟩
  obtain ⟨i1, i2⟩ := jw hI hkL q1 q2 (cs' := cs ++ [.exact x]) (p1.append ⟨hxx, trivial⟩)
  refine ((h x).2 C _ σ w vs hP i1 (ha.mono fun a b hab => i2.rv hab) (fun j hj => ?_) (by simpa using hlen)).mono fun e' w' ⟨v9, he, σ', g1, g2, g3⟩ => ⟨v9, he, ?_⟩
  · by_cases ej : j = k
    · subst ej
      rw [List.getElem?_set_self hlt, List.getElem?_set_self (by omega)]
    · rw [List.getElem?_set_ne (Ne.symm ej), List.getElem?_set_ne (Ne.symm ej)]; exact hfp j hj
  · have e1 : app (L.set k (.vars T (cs ++ [.exact x]))) { av := r, upd := [(k, .vars T (cs ++ [.exact x]))], fp := fp } = L.set k (.vars T (cs ++ [.exact x])) := by
      unfold app; simp only [List.append_nil, bH, List.set_set]
    have e2 : app L { av := r, upd := [(k, .vars T (cs ++ [c]))], fp := fp } = (L.set k (.vars T (cs ++ [.exact x]))).set k (.vars T (cs ++ [c])) := by
      unfold app; simp only [List.append_nil, bH, List.set_set]
    rw [e1] at g1 g2 g3
    have hk2 : (L.set k (.vars T (cs ++ [.exact x])))[k]? = some (.vars T (cs ++ [.exact x])) := by rw [List.getElem?_set_self hlt]
    obtain ⟨b', us', r1, r2, r4⟩ := g1.ob k _ hk2
    obtain ⟨vs1, vs2, evs, s1, s2⟩ := bn.append_inv r4
    obtain ⟨y, ey, s3⟩ := s2.one
    subst ey evs
    have exy : y = x := s3.2
    subst exy
    obtain ⟨j1, j2⟩ := jw g1 hk2 r1 r2 (cs' := cs ++ [c]) (s1.append ⟨g3 _ _ (i2 _ _ p3), trivial⟩)
    refine ⟨σ', by rw [e2]; exact j1, by rw [e2]; exact j2.rv g2, by rw [e2]; exact (i2.trans g3).trans j2⟩

theorem lF : ∀ (t : Ty) (d : t.den), bq t (acs t d) = some d
  | .int k, n => by simp [acs, bq]
  | .bool, b => rfl
  | .str, s => rfl
  | .list t, xs => by simp [acs, bq]
  | .unit, _ => rfl
  | .pair a b, (x, y) => by
    have h1 := lF a x
    have h2 := lF b y
    have h3 := iJ a x
    simp only [acs, bq]
    rw [List.take_append_of_le_length (by omega), List.take_of_length_le (by omega), List.drop_append_of_le_length (by omega), List.drop_eq_nil_of_le (by omega), List.nil_append, h1, h2]
theorem jI (t : Ty) : ∀ xs : List t.den, dA t xs.length (xs.flatMap (acs t)) = some xs
  | [] => by simp [dA]
  | x :: xs => by
    have h3 := iJ t x
    simp only [List.flatMap_cons, List.length_cons, dA]
    rw [List.take_append_of_le_length (by omega), List.take_of_length_le (by omega), List.drop_append_of_le_length (by omega), List.drop_eq_nil_of_le (by omega), List.nil_append, lF, jI t xs]
theorem iS {C : Ctx} {L : List AO} {σ : Sig} {w : World} {k : Nat} {t : Ty} {e : TypeId} {v n : Nat} {cs : List AC} {xs : List t.den} (h : INV C L σ w) (hk : L[k]? = some (.rowc e t.size v cs)) (hc : dA t n cs = some xs) (hl : cs.length = n * t.size) :
    INV C (L.set k (.row t e (v + 1) xs)) σ w ∧ dL C L σ w (L.set k (.row t e (v + 1) xs)) σ w := by
  have hlt : k < L.length := (List.getElem?_eq_some_iff.1 hk).1
  have hxl := eE hc
  obtain ⟨flat, m, h1, h0, hl2, h3⟩ := h.ob k _ hk
  have em : m = n := Nat.eq_of_mul_eq_mul_right h0 (hl2.symm.trans hl)
  subst em
  exact dv (C := C) (L' := L.set k (.row t e (v + 1) xs)) (σ' := σ) (w' := w) k h (Nat.le_refl _) rfl rfl rfl (fun _ _ _ => rfl) (fun j hj => by rw [List.getElem?_set_ne (Ne.symm hj)]) (fun _ _ => rfl)
    (fun ob e' => by rw [hk] at e'; cases e'; exact ⟨.row t e (v + 1) xs, by simp [hlt], Nat.le_succ _, fun _ h => by simp [AO.ver] at h⟩)
    (fun b ⟨ob, e1, e2, e3⟩ => by simp [hlt] at e1; subst e1; exact .inl ⟨_, hk, rfl, e3⟩)
    (fun hp _ ob e' => by simp [hlt] at e'; subst e'; exact ⟨flat, by rw [hxl]; exact h1, h0, fun i hi => iy hc (h3.mono fun c u hcu => hp c u hcu) i (by omega)⟩)
theorem qP {C : Ctx} {Q : Exit → St → Prop} {s : St} {c : Code} (t' k : Nat) (t : Ty) (n : Nat) {e : TypeId} {v : Nat} {cs : List AC} {xs : List t.den} (ht : lkp s.env t' = .one (.rwc k v)) (hk : s.L[k]? = some (.rowc e t.size v cs)) (hc : dA t n cs = some xs) (hl : cs.length = n * t.size)
    (h : AWP C c Q { env := (t', .one (.row k (v + 1))) :: s.env, L := s.L.set k (.row t e (v + 1) xs) }) : AWP C c Q s := by
  intro σ a w hr
  have hlt : k < s.L.length := (List.getElem?_eq_some_iff.1 hk).1
  obtain ⟨i1, i2⟩ := iS hr.inv hk hc hl
  refine h σ a w ⟨i1, fun t'' => ?_, hr.size, hr.defers, hr.pres.trans i2⟩
  simp only [lkp]
  by_cases e' : t'' = t'
  · rw [if_pos e', e']
    have h1 := hr.env t'
    rw [ht] at h1
    obtain ⟨q1, ob, q2, q3, q4⟩ := h1
    rw [hk] at q2; cases q2
    exact ⟨q1, .row t e (v + 1) xs, by simp [hlt], Nat.le_refl _, fun _ _ => ⟨⟨_, _, _, rfl⟩, (q4 rfl rfl).2⟩⟩
  · rw [if_neg e']; exact i2.rv (hr.env t'')
def ep (e : TypeId) (F : List (List Int)) : List AO := F.map fun l => .row (.int .i64) e l.length l
def cu (b : Nat) : List (List Int) → List AC
  | [] => []
  | l :: F => .row b l.length :: cu (b + 1) F
theorem iM : ∀ (b : Nat) (F : List (List Int)), (cu b F).length = F.length
  | _, [] => rfl
  | b, l :: F => by simp [cu, iM (b + 1) F]
theorem oV {e : TypeId} {F : List (List Int)} {i : Nat} (h : i < F.length) : (ep e F)[i]? = some (.row (.int .i64) e (F.getD i []).length (F.getD i [])) := by
  simp [ep, List.getD, h]
theorem nU : ∀ {b : Nat} {F : List (List Int)} {i : Nat}, i < F.length → (cu b F)[i]? = some (.row (b + i) (F.getD i []).length)
  | _, [], _, h => by simp at h
  | b, l :: F, 0, _ => by simp [cu, List.getD]
  | b, l :: F, i + 1, h => by
    simp only [cu, List.getElem?_cons_succ]
    rw [nU (by simpa using h)]
    simp [List.getD]; omega
theorem tK {b : Nat} {F : List (List Int)} {i : Nat} (h : i < F.length) : (cu b F).getD i .junk = .row (b + i) (F.getD i []).length := by
  rw [List.getD, nU h]; rfl
theorem pK {e : TypeId} {F : List (List Int)} {i : Nat} {ys : List Int} : (ep e F).set i (.row (.int .i64) e ys.length ys) = ep e (F.set i ys) := by
  unfold ep; rw [List.map_set]
theorem nL : ∀ {b : Nat} {F : List (List Int)} {i : Nat} {ys : List Int}, (cu b F).set i (.row (b + i) ys.length) = cu b (F.set i ys)
  | _, [], _, _ => rfl
  | b, l :: F, 0, ys => rfl
  | b, l :: F, i + 1, ys => by
    simp only [cu, List.set_cons_succ]
    rw [← nL, show b + (i + 1) = b + 1 + i by omega]
theorem qL {b : Nat} {F : List (List Int)} {i : Nat} {ys : List Int} (h : i < F.length) : bY (cu b F) i [.row (b + i) ys.length] = cu b (F.set i ys) := by
  rw [← nL, bY, List.set_eq_take_append_cons_drop, if_pos (by rw [iM]; exact h)]
  simp
theorem qW {α : Type} {l : List α} {m : Nat} {x : α} (h : l[m]? = some x) : l.set m x = l := by
  apply List.ext_getElem?
  intro i
  rw [List.getElem?_set]
  split
  · rename_i e; subst e
    split
    · exact h.symm
    · rename_i hh; exact absurd (List.getElem?_eq_some_iff.1 h).1 hh
  · rfl
theorem kv {C : Ctx} {Q : Exit → St → Prop} {c : Code} (m : Nat) (e : TypeId) {T : TypeId} {sz v : Nat} {env : Env} : ∀ (n : Nat) (pre : List AO) (cs : List AC), pre[m]? = some (.rowc T sz v (cs ++ List.replicate n .nils)) →
    AWP C c Q { env := env, L := pre.set m (.rowc T sz v (cs ++ cu pre.length (List.replicate n []))) ++ ep e (List.replicate n []) } → AWP C c Q { env := env, L := pre }
  | 0, pre, cs, hm, h => by
    have e1 : pre.set m (.rowc T sz v (cs ++ cu pre.length (List.replicate 0 []))) ++ ep e (List.replicate 0 []) = pre := by
      rw [show ep e (List.replicate 0 []) = [] from rfl, List.append_nil]
      exact qW hm
    rw [e1] at h; exact h
  | n + 1, pre, cs, hm, h => by
    have hlt : m < pre.length := (List.getElem?_eq_some_iff.1 hm).1
    refine gn (s := { env := env, L := pre }) m cs.length (.int .i64) e (T := T) (sz := sz) (ver := v) (cs := cs ++ List.replicate (n + 1) .nils) (by decide) hm (by simp [List.replicate_succ]) ?_
    have e1 : (cs ++ List.replicate (n + 1) AC.nils).set cs.length (.row pre.length 0) = (cs ++ [.row pre.length 0]) ++ List.replicate n .nils := by
      rw [List.set_append_right _ _ (Nat.le_refl _)]; simp [List.replicate_succ]
    show AWP C c Q { env := env, L := pre.set m (.rowc T sz v ((cs ++ List.replicate (n + 1) AC.nils).set cs.length (.row pre.length 0))) ++ [.row (.int .i64) e 0 []] }
    rw [e1]
    refine kv (T := T) (sz := sz) (v := v) m e n _ (cs ++ [.row pre.length 0]) (by rw [List.getElem?_append_left (by simpa using hlt)]; simp [hlt]) ?_
    have e2 : ∀ X : List AO, (pre.set m (AO.rowc T sz v ((cs ++ [AC.row pre.length 0]) ++ List.replicate n AC.nils)) ++ [AO.row (.int .i64) e 0 []]).set m (AO.rowc T sz v ((cs ++ [AC.row pre.length 0]) ++ cu (pre.length + 1) (List.replicate n []))) ++ X = pre.set m (AO.rowc T sz v ((cs ++ [AC.row pre.length 0]) ++ cu (pre.length + 1) (List.replicate n []))) ++ (AO.row (.int .i64) e 0 [] :: X) := by
      intro X
      rw [List.set_append_left _ _ (by simpa using hlt), List.set_set, List.append_assoc]; rfl
    have e3 : (pre.set m (.rowc T sz v ((cs ++ [.row pre.length 0]) ++ List.replicate n .nils)) ++ [AO.row (.int .i64) e 0 []]).length = pre.length + 1 := by simp
    rw [e3, e2]
    have e4 : cs ++ cu pre.length (List.replicate (n + 1) []) = (cs ++ [.row pre.length 0]) ++ cu (pre.length + 1) (List.replicate n []) := by
      simp [List.replicate_succ, cu]
    rw [e4] at h
    exact h
theorem m3 (k ver : Nat) (t : Ty) (xs : List t.den) : ∀ env : Env, env.all (fun x => gL k x.2) = true → (env.map fun x => (x.1, match x.2 with | .one (.row k' v) => if k' = k ∧ v = ver then AV.one (.list t xs) else .one (.row k' v) | v => v)) = env
  | [], _ => rfl
  | (n, v) :: env, h => by
    simp only [List.all_cons, Bool.and_eq_true] at h
    rw [List.map_cons, m3 k ver t xs env h.2]
    congr 1
    simp only
    split
    · rename_i k' v'
      have h1 := h.1
      simp only [gL, kf, bt, decide_eq_true_eq] at h1
      rw [if_neg (by omega)]
    · rfl
theorem nh {k ver : Nat} {t : Ty} {xs : List t.den} : ∀ {cs : List AC}, (∀ c, c ∈ cs → ∀ k' v, c = .row k' v → k' ≠ k) → cs.map (frC k ver t xs) = cs
  | [], _ => rfl
  | c :: cs, h => by
    rw [List.map_cons, nh fun c' hc' => h c' (List.mem_cons_of_mem _ hc')]
    congr 1
    cases c with
    | row k' v => simp only [frC]; rw [if_neg fun hh => h _ (List.mem_cons_self ..) k' v rfl hh.1]
    | _ => rfl
theorem nQ : ∀ {b : Nat} {F : List (List Int)} {c : AC}, c ∈ cu b F → ∃ k v, c = .row k v ∧ b ≤ k
  | _, [], _, h => by cases h
  | b, l :: F, c, h => by
    rcases List.mem_cons.1 h with rfl | h
    · exact ⟨_, _, rfl, Nat.le_refl _⟩
    · obtain ⟨k, v, e, hk⟩ := nQ h; exact ⟨k, v, e, by omega⟩
theorem l8 {C : Ctx} {Q : Exit → St → Prop} {c : Code} (m : Nat) {e T : TypeId} {sz v : Nat} {env : Env} : ∀ (F : List (List Int)) (pre : List AO) (ds : List AC), pre[m]? = some (.rowc T sz v (ds ++ cu pre.length F)) → (∀ c, c ∈ ds → ∀ k v, c ≠ .row k v) → env.all (fun x => gL pre.length x.2) = true →
    (∀ dd : List AO, dd.length = F.length → AWP C c Q { env := env, L := pre.set m (.rowc T sz v (ds ++ F.map fun l => .list (.int .i64) l)) ++ dd }) → AWP C c Q { env := env, L := pre ++ ep e F }
  | [], pre, ds, hm, _, _, h => by
    have h9 := h [] rfl
    rw [List.append_nil, show ds ++ ([] : List (List Int)).map (fun l => AC.list (.int .i64) l) = ds ++ cu pre.length [] from rfl, qW hm] at h9
    rw [show ep e [] = [] from rfl, List.append_nil]; exact h9
  | l :: F, pre, ds, hm, hds, hen, h => by
    have hlt : m < pre.length := (List.getElem?_eq_some_iff.1 hm).1
    refine cw (s := { env := env, L := pre ++ ep e (l :: F) }) pre.length m (t := .int .i64) (e := e) (ver := l.length) (xs := l) (T := T) (sz := sz) (v9 := v) (cs := ds ++ cu pre.length (l :: F))
      (by simp [ep]) (by rw [List.getElem?_append_left hlt]; exact hm) ?_
    refine (congrArg (fun E => AWP C c Q { env := E, L := _ }) (m3 _ _ _ _ env hen)).mpr ?_
    have e1 : (ds ++ cu pre.length (l :: F)).map (frC pre.length l.length (.int .i64) l) = (ds ++ [.list (.int .i64) l]) ++ cu (pre.length + 1) F := by
      rw [List.map_append, nh fun c hc k' v' e => absurd e (hds c hc k' v')]
      simp only [cu, List.map_cons, frC, and_self, if_true]
      rw [nh fun c hc k' v' e9 => by obtain ⟨k2, v2, e2, hk2⟩ := nQ hc; rw [e2] at e9; cases e9; omega]
      simp
    rw [e1]
    have e2 : (((pre ++ ep e (l :: F)).set pre.length (.dead l.length)).set m (.rowc T sz v ((ds ++ [.list (.int .i64) l]) ++ cu (pre.length + 1) F))) = (pre.set m (.rowc T sz v ((ds ++ [.list (.int .i64) l]) ++ cu (pre.length + 1) F)) ++ [.dead l.length]) ++ ep e F := by
      rw [List.set_append_right _ _ (Nat.le_refl _), List.set_append_left _ _ hlt]
      simp [ep]
    show AWP C c Q { env := env, L := ((pre ++ ep e (l :: F)).set pre.length (.dead l.length)).set m _ }
    rw [e2]
    have e3 : (pre.set m (.rowc T sz v ((ds ++ [.list (.int .i64) l]) ++ cu (pre.length + 1) F)) ++ [AO.dead l.length]).length = pre.length + 1 := by simp
    refine l8 (T := T) (sz := sz) (v := v) m F _ (ds ++ [.list (.int .i64) l]) (by rw [List.getElem?_append_left (by simpa using hlt), e3]; simp [hlt]) (fun c hc k v => ?_) ?_ fun dd hdd => ?_
    · rcases List.mem_append.1 hc with hc | hc
      · exact hds c hc k v
      · simp at hc; subst hc; simp
    · rw [e3]
      refine List.all_eq_true.2 fun x hx => ?_
      have := List.all_eq_true.1 hen x hx
      have mono1 : ∀ a : AV, kf pre.length a = true → kf (pre.length + 1) a = true := by
        intro a ha
        cases a with
        | one c => exact ko (by omega) ha
        | agg cs => exact List.all_eq_true.2 fun c hc => ko (by omega) (List.all_eq_true.1 ha c hc)
        | _ => rfl
      cases hx2 : x.2 with
      | tup vs => rw [hx2] at this; exact List.all_eq_true.2 fun c hc => mono1 c (List.all_eq_true.1 this c hc)
      | one c => rw [hx2] at this; exact mono1 (.one c) this
      | agg cs => rw [hx2] at this; exact mono1 (.agg cs) this
      | _ => rfl
    · have h9 := h (.dead l.length :: dd) (by simp [hdd])
      rw [List.set_append_left _ _ (by simpa using hlt), List.set_set, List.append_assoc]
      simpa using h9
theorem qG {P : Program} {f : FuncId} {args : List AV} {T : TypeId} {cs cs' : List AC} {r : AV} (hc : fv P f)
    (hp : args.all gp = true) (hcs : cs.all f0 = true)
    (h : ∀ C σ w vs, C.P = P → INV C [.vars T cs] σ w → bn (RV C [.vars T cs] σ w) args vs → Calls P f vs.toArray w fun e w' => ∃ L' σ' v u, e = .returned u ∧ (∃ cs1 rest, L' = .vars T cs1 :: rest ∧ cs1.map (fzC L') = cs' ∧ fzV L' v = r) ∧ INV C L' σ' w' ∧ RV C L' σ' w' v u ∧ dL C [.vars T cs] σ w L' σ' w')
    (L0 : List AO) (m : Nat) (hm : L0[m]? = some (.vars T cs)) : ez P L0 f (args.map (mv1 m)) { av := r, upd := [(m, .vars T cs')], fp := [m] } := by

  refine ⟨hc, fun C L σ w vs hP hI ha hfp hlen => ?_⟩
  have hm' : L[m]? = some (.vars T cs) := by rw [hfp m (by simp)]; exact hm
  obtain ⟨b0, us, e1, e2, e3⟩ := hI.ob m _ hm'
  have hown : own L σ m b0 := ⟨_, hm', rfl, by rw [e1]; rfl⟩
  let C2 : Ctx := { P := P, X := fun b => C.X b ∨ ∃ o, o ≠ m ∧ own L σ o b, keep := fun b => b < w.heap.size ∧ b ≠ b0, w0 := w, N := 0, bL := [.vars T cs], bσ := fun _ => σ m, bw := w }
  let σ2 : Sig := fun _ => σ m
  have hav : ∀ b, avd C2 [.vars T cs] σ2 b ↔ avd C L σ b := by
    intro b
    constructor
    · rintro ((hx | ⟨o, ho, hb⟩) | ⟨o, ob, q1, q2, q3⟩)
      · exact .inl hx
      · exact .inr ⟨o, hb⟩
      · cases o with
        | zero => simp at q1; subst q1; exact .inr ⟨m, _, hm', q2, q3⟩
        | succ o => simp at q1
    · rintro (hx | ⟨o, hb⟩)
      · exact .inl (.inl hx)
      · by_cases eo : o = m
        · subst eo
          obtain ⟨ob, q1, q2, q3⟩ := hb
          rw [hm'] at q1; cases q1
          exact .inr ⟨0, _, by simp; rfl, rfl, q3⟩
        · exact .inl (.inr ⟨o, eo, hb⟩)
  have hpure : ∀ {c : AC} {u : Value}, f0 c = true → RC C L σ w c u → RC C2 [.vars T cs] σ2 w c u := fun hp h => eG (fun b _ hb => (hav b).1 hb) hp h
  have hI2 : INV C2 [.vars T cs] σ2 w := by
    refine ⟨fun o ob e => ?_, fun o o' b ⟨ob, q1, _⟩ ⟨ob', q2, _⟩ => ?_, fun o b ⟨ob, q1, q2, q3⟩ => ?_, fun b hb => ⟨hb.1, rfl⟩, fun b hb => ?_, Nat.le_refl _, rfl, rfl, rfl⟩
    · cases o with
      | zero =>
        simp at e; subst e
        exact ⟨b0, us, e1, e2, e3.weaken fun c u hc hcu => hpure (List.all_eq_true.1 hcs c hc) hcu⟩
      | succ o => simp at e
    · cases o with
      | zero => cases o' with
        | zero => rfl
        | succ o' => simp at q2
      | succ o => simp at q1
    · have eb : b0 = b := by
        have : σ2 o = σ m := rfl
        rw [this, e1] at q3; simpa [blk] using q3
      subst eb
      refine ⟨fun hk => hk.2 rfl, ?_⟩
      rintro (hx | ⟨o', ho', hb'⟩)
      · exact (hI.off m b0 hown).2 hx
      · exact ho' (hI.inj o' m b0 hb' hown)
    · rcases hb with hx | ⟨o, _, hb⟩
      · exact Nat.lt_of_lt_of_le (hI.xlt b hx) hI.size
      · exact ge hI hb
  have hargs : bn (RV C2 [.vars T cs] σ2 w) args vs := by
    have : ∀ (as9 : List AV) (us : List Value), (∀ a, a ∈ as9 → gp a = true) → bn (RV C L σ w) (as9.map (mv1 m)) us → bn (RV C2 [.vars T cs] σ2 w) as9 us := by
      intro as9
      induction as9 with
      | nil => intro us _ hh; cases us with | nil => trivial | cons _ _ => exact hh.elim
      | cons a as9 ih =>
        intro us hm1 hh
        cases us with
        | nil => exact hh.elim
        | cons u us =>
          refine ⟨?_, ih us (fun b hb => hm1 b (List.mem_cons_of_mem _ hb)) hh.2⟩
          have hl := hm1 a (List.mem_cons_self ..)
          have h1 := hh.1
          cases a with
          | one c =>
            by_cases hpc : f0 c = true
            · have : mvC m c = c := by cases c <;> first | rfl | cases hpc
              have h1 : RC C L σ w (mvC m c) u := h1
              rw [this] at h1
              exact hpure hpc h1
            · cases c with
              | ptr k v i off =>
                have hz : k = 0 ∧ v = 0 ∧ i = 0 := by
                  simp only [gp, io] at hl
                  split at hl
                  · rename_i e; cases e; exact ⟨rfl, rfl, rfl⟩
                  · cases hl
                obtain ⟨rfl, rfl, rfl⟩ := hz
                obtain ⟨q0, ob, q1, q2, q3⟩ := (h1 : RC C L σ w (.ptr m 0 0 off) u)
                rw [hm'] at q1; cases q1
                exact ⟨q0, .vars T cs, rfl, Nat.le_refl _, fun _ _ => q3 rfl rfl⟩
              | row _ _ => simp [gp, io, f0] at hl
              | mpv _ => simp [gp, io, f0] at hl
              | rwc _ _ => simp [gp, io, f0] at hl
              | fn f caps =>
                simp only [gp, io] at hl
                exact absurd hl hpc
              | _ => exact absurd rfl hpc
          | undef => trivial
          | void => exact h1
          | agg cs0 => exact gT (fun b _ hb => (hav b).1 hb) hl h1
          | tup vs0 => exact gT (fun b _ hb => (hav b).1 hb) hl h1
    exact this args vs (fun a ha => List.all_eq_true.1 hp a ha) ha
  refine (h C2 σ2 w vs rfl hI2 hargs).mono fun e w' hh => ?_
  obtain ⟨L', σ', v, u, rfl, ⟨cs1, rest, hL, hcs1, hr⟩, h1, h2, h3⟩ := hh
  refine ⟨u, rfl, ?_⟩
  have hlt : m < L.length := (List.getElem?_eq_some_iff.1 hm').1
  have hL0 : L'[0]? = some (.vars T cs1) := by rw [hL]; rfl
  obtain ⟨b1, us1, f1, f2, f3⟩ := h1.ob 0 _ hL0
  -- the object lies where it lay
  have hpt : RC C2 L' σ' w' (.ptr 0 0 0 0) (.pointer (some ⟨b0, 0, none⟩)) := h3 _ _ ⟨rfl, _, by simp; rfl, Nat.le_refl _, fun _ _ => ⟨b0, by show blk (σ m) = _; rw [e1]; rfl, by simp [AO.esize]⟩⟩
  obtain ⟨_, ob, q1, q2, q3⟩ := hpt
  rw [hL0] at q1; cases q1
  obtain ⟨b2, q4, q5⟩ := q3 rfl rfl
  have eb : b2 = b0 := by simp only [Value.pointer.injEq, Option.some.injEq, Addr.mk.injEq] at q5; exact q5.1.symm
  subst eb
  have eb1 : b1 = b2 := by rw [f1] at q4; simpa [blk] using q4
  subst eb1
  have hw : ∀ b, b < w.heap.size → b ≠ b1 → w'.heap[b]? = w.heap[b]? := fun b hb hne => (h1.kept b ⟨hb, hne⟩).2
  have hX : ∀ b, C2.X b → b < w.heap.size → avd C L σ b := by
    rintro b (hx | ⟨o, _, hb⟩) _
    · exact .inl hx
    · exact .inr ⟨o, hb⟩
  have hback : ∀ b, avd C (L.set m (.vars T cs')) σ b → C2.X b ∨ ∃ o T cs, L'[o]? = some (.vars T cs) ∧ own L' σ' o b := by
    rintro b (hx | ⟨o, ob, q1, q2, q3⟩)
    · exact .inl (.inl hx)
    · by_cases eo : o = m
      · subst eo
        rw [e1] at q3
        have : b1 = b := by simpa [blk] using q3
        subst this
        exact .inr ⟨0, _, _, hL0, _, hL0, rfl, by rw [f1]; rfl⟩
      · rw [List.getElem?_set_ne (Ne.symm eo)] at q1
        exact .inl (.inr ⟨o, eo, ob, q1, q2, q3⟩)
  refine dj (σ' := σ) hI hm' h1.size (h1.os.trans rfl) h1.tape h1.output (fun b hb hno => hw b hb (fun e => hno (e ▸ hown))) (fun _ _ => rfl) ⟨Nat.le_refl _, fun _ _ => ⟨rfl, rfl, rfl, trivial⟩⟩
    (fun _ b hb => .inl ⟨_, hm', rfl, hb⟩) (fun _ _ => ⟨b1, us1, e1, f2, ?_⟩) (fun _ _ => ?_)
  · rw [← hcs1]
    exact f3.mapL fun c u hc => oL h1 (by rw [hcs1]; exact hback) hc
  · rw [← hr]
    exact xg h1 hback h2

theorem qJ {P : Program} {f : FuncId} {args : List AV} {r : AV} (hc : fv P f) (hp : args.all ju = true)
    (h : ∀ C σ w vs, C.P = P → INV C [] σ w → bn (RV C [] σ w) args vs → Calls P f vs.toArray w fun e w' => ∃ L' σ' v u, e = .returned u ∧ fzV L' v = r ∧ INV C L' σ' w' ∧ RV C L' σ' w' v u) : c7 P f args r := by
  refine ⟨hc, fun C L σ w vs hP hI ha => ?_⟩
  have hx : ∀ b, avd C L σ b → b < w.heap.size := by
    rintro b (hx | ⟨o, hb⟩)
    · exact Nat.lt_of_lt_of_le (hI.xlt b hx) hI.size
    · exact ge hI hb
  have hI2 : INV (Ctx.start P (avd C L σ) w 0) [] σ w := lw hx
  have hargs : bn (RV (Ctx.start P (avd C L σ) w 0) [] σ w) args vs := ha.weaken fun v u hv hu => gT (C' := Ctx.start P (avd C L σ) w 0) (L' := []) (σ' := σ) (fun b _ hb => by
    rcases hb with hb | ⟨o, ob, e, _⟩
    · exact hb
    · simp at e) (List.all_eq_true.1 hp v hv) hu
  refine (h _ σ w vs rfl hI2 hargs).mono fun e w' ⟨L', σ', v, u, he, hr, h1, h2⟩ => ⟨u, he, ip h1, ?_⟩
  have h3 := yy (σ' := σ) h1 h2
  rw [hr] at h3
  have hpr : ju r = true := by rw [← hr]; exact sj v
  exact gT (C := Ctx.start P (avd C L σ) w 0) (L := []) (fun b _ hb => .inl hb) hpr h3
end Go.AV
