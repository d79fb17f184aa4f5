/- The contract of slices.Compact on an own row of ints, out of the shelf's contract. -/
import Derived.Test.YtfakhaagbimljaaDoorLy
import Derived.Shelf.Slices.CompactI
set_option linter.unusedSimpArgs false
set_option linter.unusedVariables false
namespace Go.AV
open Go Go.RowKit Go.Sort
section
variable {C C' : Ctx} {L : List AO} {σ : Sig} {w : World}
theorem iF (hX : C'.X = C.X) : avd C' L σ = avd C L σ := by funext b; simp only [avd, hX]
theorem jm (hX : C'.X = C.X) : @fc C' L σ w = @fc C L σ w := by funext t d off v; simp only [fc, iF hX]
theorem oV (hX : C'.X = C.X) : RFN C' L σ w = RFN C L σ w := by funext f ds v; simp only [RFN, iF hX, jm hX]
theorem ri (hX : C'.X = C.X) : jL C' L σ w = jL C L σ w := by
  funext c u; cases c <;> simp only [jL, jm hX, oV hX]
theorem kj (hX : C'.X = C.X) : RC C' L σ w = RC C L σ w := by
  funext c u; cases c <;> simp only [RC, RC0, iF hX, jm hX, oV hX, ri hX]
theorem sV (hX : C'.X = C.X) : RV1 C' L σ w = RV1 C L σ w := by
  funext c u; cases c <;> simp only [RV1, kj hX]
theorem qi (hX : C'.X = C.X) : RV C' L σ w = RV C L σ w := by
  funext c u; cases c <;> simp only [RV, sV hX]
theorem qp (hX : C'.X = C.X) (hP : C'.P = C.P) (o : Nat) (ob : AO) : OB C' L σ w o ob = OB C L σ w o ob := by
  cases ob <;> simp only [OB, kj hX, iF hX, hP]
end
theorem cM {P : Program} {f : FuncId} {fn : Func} {c : Code} {args : List AV} (L0 : List AO) (out : Out) (hf : P.funcs[f]? = some fn) (hb : fn.body = some c) (hname : (fn.name == "runtime.NumGoroutine") = false) (hn : args.length ≤ fn.ntmps)
    (hfp : ∀ k, k < L0.length → k ∈ out.fp)
    (h : ∀ C, C.P = P → C.N = fn.ntmps → C.bL = L0 → AWP C c (pV P fn fun s' v => s'.L = app L0 out ∧ v = out.av) { env := aJ 0 args, L := L0 }) : cu P L0 f args out := by
  refine ⟨⟨fn, hf, hname, by rw [hb]; rfl⟩, fun C L σ w vs hP hI ha hfp2 hlen => ?_⟩
  have hL : L = L0 := List.ext_getElem? fun k => by
    by_cases hk : k < L0.length
    · exact hfp2 k (hfp k hk)
    · rw [List.getElem?_eq_none (by omega), List.getElem?_eq_none (by omega)]
  subst hL
  let C2 : Ctx := { P := P, X := C.X, keep := fun b => b < w.heap.size ∧ ¬ ∃ o, own L σ o b, w0 := w, N := fn.ntmps, bL := L, bσ := σ, bw := w }
  have hX : C2.X = C.X := rfl
  have hP2 : C2.P = C.P := hP.symm
  have hI2 : INV C2 L σ w := ⟨fun o ob e => by rw [qp hX hP2]; exact hI.ob o ob e, hI.inj, fun o b ho => ⟨fun hk => hk.2 ⟨o, ho⟩, (hI.off o b ho).2⟩, fun b hb => ⟨hb.1, rfl⟩, fun b hb => Nat.lt_of_lt_of_le (hI.xlt b hb) hI.size, Nat.le_refl _, rfl, rfl, rfl⟩
  have hargs : aR (RV C2 L σ w) args vs := by rw [qi hX]; exact ha
  have hl := hargs.length
  refine (calls_of_wp hf hb (P := P) (R := fun e w' => ∃ (s' : St) (σ' : Sig) (v : AV) (u : Value), e = .returned u ∧ (s'.L = app L out ∧ v = out.av) ∧ INV C2 s'.L σ' w' ∧ RV C2 s'.L σ' w' v u ∧ cC C2 L σ w s'.L σ' w')
    (wp_mono (h C2 rfl rfl rfl σ _ w ⟨hI2, fun t => ?_, by simp [C2]; omega, rfl, cC.refl _ _ _ _⟩) fun e a' w' ⟨s', σ', h1, h2⟩ => ?_)).mono fun e w' hh => ?_
  · rw [gc, if_pos (Nat.zero_le _), Nat.sub_zero]
    cases ht : args[t]? with
    | none => trivial
    | some a =>
      obtain ⟨u, hu, hru⟩ := hargs.at_ ht
      have : (vs.toArray ++ Array.replicate (fn.ntmps - vs.toArray.size) undef).getD t undef = u := by
        have htl : t < vs.length := (List.getElem?_eq_some_iff.1 hu).1
        simp only [Array.getD_eq_getD_getElem?]
        rw [Array.getElem?_append_left (by simpa using htl)]
        simp [hu]
      rw [this]
      exact hru
  · obtain ⟨he, v, hv, hR⟩ := h1
    obtain ⟨u, hu, hru⟩ := jI h2 hv
    have hfin : a'.defers = [] ∧ ∃ v, (results fn a'.tmps).run P w' = .ok v w' ∧ ∃ (s' : St) (σ' : Sig) (v' : AV) (u : Value), Ending.returned v = .returned u ∧ (s'.L = app L out ∧ v' = out.av) ∧ INV C2 s'.L σ' w' ∧ RV C2 s'.L σ' w' v' u ∧ cC C2 L σ w s'.L σ' w' :=
      ⟨h2.defers, u, hu, s', σ', v, u, rfl, hR, h2.inv, hru, h2.pres⟩
    rcases he with rfl | rfl
    · exact hfin
    · exact hfin
  · obtain ⟨s', σ', v, u, rfl, ⟨hLf, rfl⟩, h1, h2, h3⟩ := hh
    rw [hLf] at h1 h2 h3
    refine ⟨u, rfl, σ', ⟨fun o ob e => ?_, h1.inj, fun o b ho => ?_, fun b hb => ?_, hI.xlt, Nat.le_trans hI.size h1.size, h1.os.trans hI.os, h1.tape.trans hI.tape, h1.output.trans hI.output⟩, ?_, ?_⟩
    · have := h1.ob o ob e
      rw [qp hX hP2] at this; exact this
    · obtain ⟨g1, g2⟩ := h1.off o b ho
      refine ⟨fun hk => ?_, g2⟩
      have hlt := (hI.kept b hk).1
      have hsz := hI.size
      have hno : ¬ ∃ o, own L σ o b := fun ⟨o', ho'⟩ => (hI.off o' b ho').1 hk
      exact g1 ⟨Nat.lt_of_lt_of_le hlt hsz, hno⟩
    · have hk := hI.kept b hb
      have hno : ¬ ∃ o, own L σ o b := fun ⟨o', ho'⟩ => (hI.off o' b ho').1 hb
      have := (h1.kept b ⟨Nat.lt_of_lt_of_le hk.1 hI.size, hno⟩).2
      exact ⟨hk.1, this.trans hk.2⟩
    · rw [qi hX] at h2; exact h2
    · intro c u hc
      have := h3 c u (by rw [kj hX]; exact hc)
      rw [kj hX] at this; exact this
theorem az {C : Ctx} {Q : Exit → St → Prop} {s : St} {c : Code} {L1 : List AO} {ob : AO} (hL : s.L = L1 ++ [ob]) (hB : C.bL.length ≤ L1.length) (he : s.env.all (fun x => fm L1.length x.2) = true) (ho : L1.all (pA L1.length) = true)
    (h : AWP C c Q { env := s.env, L := L1 }) : AWP C c Q s := by
  refine rn L1.length (ob := ob) (by rw [hL]; simp) ?_
  refine ry (L1 := L1) (ver := ob.ver) (n := L1.length) ?_ rfl hB he ho h
  show s.L.set L1.length _ = _
  rw [hL, List.set_append]
  simp
section
variable {C C' : Ctx} {L L' : List AO} {σ σ' : Sig} {w : World} {n : Nat}
theorem mf (ha : ∀ b, b < w.heap.size → avd C' L' σ' b → avd C L σ b) {t : Ty} {d : t.den} {off : Nat} {u : Value} (h : fc C L σ w t d off u) : fc C' L' σ' w t d off u := by
  obtain ⟨b, o, cs, e, h1, h2, h3, h4⟩ := h
  exact ⟨b, o, cs, e, fun hx => h1 (ha b h2 hx), h2, h3, h4.keep (Nat.le_refl _) (fun _ _ _ => rfl) ha⟩
theorem ko (ha : ∀ b, b < w.heap.size → avd C' L' σ' b → avd C L σ b) (hL : ∀ k, k < n → L'[k]? = L[k]?) (hσ : ∀ k, k < n → σ' k = σ k) {c : AC} {u : Value} (hf : bu n c = true) (h : RC C L σ w c u) : RC C' L' σ' w c u := by
  obtain ⟨h1, h2⟩ := h
  refine ⟨h1, ?_⟩
  have hRP : ∀ k ver i off u, k < n → RP L σ k ver i off u → RP L' σ' k ver i off u := by
    rintro k ver i off u hk ⟨ob, e, r⟩
    exact ⟨ob, by rw [hL k hk]; exact e, by rw [hσ k hk]; exact r⟩
  cases c with
  | row k v =>
    simp only [bu, decide_eq_true_eq] at hf
    obtain ⟨ob, e, r⟩ := h2
    exact ⟨ob, by rw [hL k hf]; exact e, by rw [hσ k hf]; exact r⟩
  | ptr k v i off => simp only [bu, decide_eq_true_eq] at hf; exact hRP _ _ _ _ _ hf h2
  | mpv k =>
    simp only [bu, decide_eq_true_eq] at hf
    obtain ⟨ob, e, r⟩ := h2
    exact ⟨ob, by rw [hL k hf]; exact e, by rw [hσ k hf]; exact r⟩
  | rwc k v =>
    simp only [bu, decide_eq_true_eq] at hf
    obtain ⟨ob, e, r⟩ := h2
    exact ⟨ob, by rw [hL k hf]; exact e, by rw [hσ k hf]; exact r⟩
  | fn f caps =>
    obtain ⟨vs, e, hall⟩ := h2
    refine ⟨vs, e, hall.weaken fun c u hc hcu => ?_⟩
    have := List.all_eq_true.1 hf c hc
    cases c with
    | ref k => simp only [decide_eq_true_eq] at this; exact ⟨hcu.1, hRP _ _ _ _ _ this hcu.2⟩
    | pat t d => exact ⟨hcu.1, mf ha hcu.2⟩
    | pfn f ds => exact ⟨hcu.1, gQ ha hcu.2⟩
  | list t xs => exact Dat.keep (t := .list t) (Nat.le_refl _) (fun _ _ _ => rfl) ha h2
  | pat t d off => exact mf ha h2
  | pfn f ds => exact gQ ha h2
  | _ => exact h2
theorem lK (ha : ∀ b, b < w.heap.size → avd C' L' σ' b → avd C L σ b) (hL : ∀ k, k < n → L'[k]? = L[k]?) (hσ : ∀ k, k < n → σ' k = σ k) {v : AV} {u : Value} (hf : l8 n v = true) (h : RV1 C L σ w v u) : RV1 C' L' σ' w v u := by
  cases v with
  | undef => trivial
  | void => exact h
  | one c => exact ko ha hL hσ hf h
  | agg cs => obtain ⟨vs, e, hall⟩ := h; exact ⟨vs, e, hall.weaken fun c u hc hcu => ko ha hL hσ (List.all_eq_true.1 hf c hc) hcu⟩
  | tup _ => exact h.elim
theorem qu (ha : ∀ b, b < w.heap.size → avd C' L' σ' b → avd C L σ b) (hL : ∀ k, k < n → L'[k]? = L[k]?) (hσ : ∀ k, k < n → σ' k = σ k) {v : AV} {u : Value} (hf : fm n v = true) (h : RV C L σ w v u) : RV C' L' σ' w v u := by
  cases v with
  | tup vs => obtain ⟨us, e, hall⟩ := h; exact ⟨us, e, hall.weaken fun c u hc hcu => lK ha hL hσ (List.all_eq_true.1 hf c hc) hcu⟩
  | undef => trivial
  | void => exact h
  | one c => exact lK (v := .one c) ha hL hσ hf h
  | agg cs => exact lK (v := .agg cs) ha hL hσ hf h
theorem jr {v : AV} {u : Value} (h : RV1 C L σ w v u) : l8 L.length v = true := by
  cases v with
  | undef => rfl
  | void => rfl
  | one c => exact iX h
  | agg cs =>
    obtain ⟨vs, e, hall⟩ := h
    refine List.all_eq_true.2 fun c hc => ?_
    obtain ⟨i, hi⟩ := List.getElem?_of_mem hc
    obtain ⟨u, _, hu⟩ := hall.at_ hi
    exact iX hu
  | tup _ => exact h.elim
theorem sj {v : AV} {u : Value} (h : RV C L σ w v u) : fm L.length v = true := by
  cases v with
  | tup vs =>
    obtain ⟨us, e, hall⟩ := h
    refine List.all_eq_true.2 fun c hc => ?_
    obtain ⟨i, hi⟩ := List.getElem?_of_mem hc
    obtain ⟨u, _, hu⟩ := hall.at_ hi
    exact jr hu
  | undef => rfl
  | void => rfl
  | one c => exact jr (v := .one c) h
  | agg cs => exact jr (v := .agg cs) h
theorem jD {E : List AO} : ∀ (u : List (Nat × AO)) (A : List AO), (∀ p, p ∈ u → p.1 < A.length) → bg (A ++ E) u = bg A u ++ E
  | [], A, _ => rfl
  | (k, ob) :: u, A, h => by
    simp only [bg]
    rw [List.set_append_left _ _ (h (k, ob) (List.mem_cons_self ..))]
    exact jD u _ fun p hp => by rw [List.length_set]; exact h p (List.mem_cons_of_mem _ hp)
end
theorem oL {P : Program} {f : FuncId} {args : List AV} {A E : List AO} {out : Out} (h : cu P A f args out) (hA : A.all (pA A.length) = true) (hargs : args.all (fm A.length) = true) (hnew : out.new = [])
    (hu : ∀ p, p ∈ out.upd → p.1 < A.length) (hfp : ∀ k, k < A.length → k ∈ out.fp) : cu P (A ++ E) f args out := by
  refine ⟨h.1, fun C L σ w vs hP hI ha hfp2 hlen => ?_⟩
  have hLA : ∀ k, k < A.length → L[k]? = A[k]? := fun k hk => by rw [hfp2 k (hfp k hk), List.getElem?_append_left hk]
  have hlen' : L.length = A.length + E.length := by rw [hlen, List.length_append]
  have hL : L = A ++ L.drop A.length := List.ext_getElem? fun k => by
    rcases Nat.lt_or_ge k A.length with hk | hk
    · rw [List.getElem?_append_left hk, hLA k hk]
    · rw [List.getElem?_append_right hk, List.getElem?_drop]; congr 1; omega
  generalize hE' : L.drop A.length = E' at hL
  subst hL
  clear hE'
  have hLE : ∀ (B : List AO) k, B.length = A.length → A.length ≤ k → (B ++ E')[k]? = (A ++ E')[k]? := fun B k hB hk => by
    rw [List.getElem?_append_right (by omega), List.getElem?_append_right hk, hB]
  let C2 : Ctx := { P := P, X := fun b => C.X b ∨ ∃ o, A.length ≤ o ∧ own (A ++ E') σ o b, keep := fun b => b < w.heap.size ∧ ¬ ∃ o, o < A.length ∧ own (A ++ E') σ o b, w0 := w, N := C.N, bL := [], bσ := σ, bw := w }
  have hownA : ∀ o b, own A σ o b ↔ o < A.length ∧ own (A ++ E') σ o b := by
    intro o b
    constructor
    · rintro ⟨ob, q1, q2, q3⟩
      have ho := (List.getElem?_eq_some_iff.1 q1).1
      exact ⟨ho, ob, by rw [hLA o ho]; exact q1, q2, q3⟩
    · rintro ⟨ho, ob, q1, q2, q3⟩
      exact ⟨ob, by rw [← hLA o ho]; exact q1, q2, q3⟩
  have hav : ∀ b, avd C2 A σ b ↔ avd C (A ++ E') σ b := by
    intro b
    constructor
    · rintro ((hx | ⟨o, _, hb⟩) | ⟨o, hb⟩)
      · exact .inl hx
      · exact .inr ⟨o, hb⟩
      · exact .inr ⟨o, ((hownA o b).1 hb).2⟩
    · rintro (hx | ⟨o, hb⟩)
      · exact .inl (.inl hx)
      · rcases Nat.lt_or_ge o A.length with ho | ho
        · exact .inr ⟨o, (hownA o b).2 ⟨ho, hb⟩⟩
        · exact .inl (.inr ⟨o, ho, hb⟩)
  have hcut : ∀ {c : AC} {u : Value}, bu A.length c = true → RC C (A ++ E') σ w c u → RC C2 A σ w c u := fun hf h => ko (n := A.length) (fun b _ hb => (hav b).1 hb) (fun k hk => (hLA k hk).symm) (fun _ _ => rfl) hf h
  have hI2 : INV C2 A σ w := by
    refine ⟨fun o ob e => ?_, fun o o' b q1 q2 => hI.inj o o' b ((hownA o b).1 q1).2 ((hownA o' b).1 q2).2, fun o b q => ?_, fun b hb => ⟨hb.1, rfl⟩, fun b hb => ?_, Nat.le_refl _, rfl, rfl, rfl⟩
    · have ho := (List.getElem?_eq_some_iff.1 e).1
      have h1 := hI.ob o ob (by rw [hLA o ho]; exact e)
      have hfo := List.all_eq_true.1 hA ob (List.mem_of_getElem? e)
      cases ob with
      | dead _ => trivial
      | vars T cs => obtain ⟨b, vs, e1, e2, e3⟩ := h1; exact ⟨b, vs, e1, e2, e3.weaken fun c u hc hcu => hcut (List.all_eq_true.1 hfo c hc) hcu⟩
      | row t e v xs => obtain ⟨flat, h2, h0, h3⟩ := h1; exact ⟨flat, h2, h0, fun i hi => (h3 i hi).keep (Nat.le_refl _) (fun _ _ _ => rfl) fun b _ hb => (hav b).1 hb⟩
      | mp T vk es => obtain ⟨b, ents, clock, e1, e2, e3, e4, e5⟩ := h1; exact ⟨b, ents, clock, e1, e2, e3, e4, by rw [hP] at e5; exact e5⟩
      | itr s pos => exact h1
      | fact g x => exact ⟨h1.1, fun hx => h1.2 ((hav g).1 hx)⟩
      | rowc e sz v cs => obtain ⟨flat, m, h2, h0, hl0, h3⟩ := h1; exact ⟨flat, m, h2, h0, hl0, h3.weaken fun c u hc hcu => hcut (List.all_eq_true.1 hfo c hc) hcu⟩
    · obtain ⟨ho, q⟩ := (hownA o b).1 q
      refine ⟨fun hk => hk.2 ⟨o, ho, q⟩, ?_⟩
      rintro (hx | ⟨o', ho', q'⟩)
      · exact (hI.off o b q).2 hx
      · have := hI.inj o o' b q q'; omega
    · rcases hb with hx | ⟨o, _, q⟩
      · exact Nat.lt_of_lt_of_le (hI.xlt b hx) hI.size
      · exact eR hI q
  have hargs2 : aR (RV C2 A σ w) args vs := ha.weaken fun v u hv hu => qu (n := A.length) (fun b _ hb => (hav b).1 hb) (fun k hk => (hLA k hk).symm) (fun _ _ => rfl) (List.all_eq_true.1 hargs v hv) hu
  refine (h.2 C2 A σ w vs rfl hI2 hargs2 (fun _ _ => rfl) rfl).mono fun e w' ⟨v, he, σ', g1, g2, g3⟩ => ⟨v, he, ?_⟩
  have eA : app A out = bg A out.upd := by unfold app; rw [hnew, List.append_nil]
  rw [eA] at g1 g2 g3
  have eL : app (A ++ E') out = bg A out.upd ++ E' := by unfold app; rw [hnew, List.append_nil]; exact jD _ _ hu
  have hlA : (bg A out.upd).length = A.length := du _ _
  generalize bg A out.upd = A' at g1 g2 g3 eL hlA
  let σ3 : Sig := fun k => if k < A.length then σ' k else σ k
  have hσl : ∀ k, k < A.length → σ3 k = σ' k := fun k hk => if_pos hk
  have hσg : ∀ k, A.length ≤ k → σ3 k = σ k := fun k hk => if_neg (by omega)
  have hlo : ∀ o b, o < A.length → (own (A' ++ E') σ3 o b ↔ own A' σ' o b) := by
    intro o b ho
    unfold own
    rw [List.getElem?_append_left (by omega), hσl o ho]
  have hhi : ∀ o b, A.length ≤ o → (own (A' ++ E') σ3 o b ↔ own (A ++ E') σ o b) := by
    intro o b ho
    unfold own
    rw [hLE A' o hlA ho, hσg o ho]
  have hav3 : ∀ b, avd C (A' ++ E') σ3 b ↔ avd C2 A' σ' b := by
    intro b
    constructor
    · rintro (hx | ⟨o, hb⟩)
      · exact .inl (.inl hx)
      · rcases Nat.lt_or_ge o A.length with ho | ho
        · exact .inr ⟨o, (hlo o b ho).1 hb⟩
        · exact .inl (.inr ⟨o, ho, (hhi o b ho).1 hb⟩)
    · rintro ((hx | ⟨o, ho, hb⟩) | ⟨o, hb⟩)
      · exact .inl hx
      · exact .inr ⟨o, (hhi o b ho).2 hb⟩
      · obtain ⟨ob, q1, q2⟩ := hb
        have ho := (List.getElem?_eq_some_iff.1 q1).1
        exact .inr ⟨o, (hlo o b (by omega)).2 ⟨ob, q1, q2⟩⟩
  have hcut3 : ∀ {c : AC} {u : Value}, RC C2 A' σ' w' c u → RC C (A' ++ E') σ3 w' c u := fun h => ko (n := A.length) (fun b _ hb => (hav3 b).1 hb) (fun k hk => by rw [List.getElem?_append_left (by omega)]) hσl (by rw [← hlA]; exact iX h) h
  have hlow : ∀ {c : AC} {u : Value}, bu A.length c = true → RC C (A ++ E') σ w c u → RC C (A' ++ E') σ3 w' c u := fun hf h => hcut3 (g3 _ _ (hcut hf h))
  have hRP : ∀ k ver i off u, u.oneCell' = true → RP (A ++ E') σ k ver i off u → RP (A' ++ E') σ3 k ver i off u := by
    intro k ver i off u hu h
    rcases Nat.lt_or_ge k A.length with hk | hk
    · exact (hlow (c := .ptr k ver i off) (by simp only [bu]; exact decide_eq_true hk) ⟨hu, h⟩).2
    · obtain ⟨ob, e, r⟩ := h
      exact ⟨ob, by rw [hLE A' k hlA hk]; exact e, by rw [hσg k hk]; exact r⟩
  have hpres : cC C (A ++ E') σ w (A' ++ E') σ3 w' := by
    rintro c u ⟨hc1, hc⟩
    cases c with
    | row k v =>
      rcases Nat.lt_or_ge k A.length with hk | hk
      · exact hlow (by simp only [bu]; exact decide_eq_true hk) ⟨hc1, hc⟩
      · obtain ⟨ob, e, r⟩ := hc
        exact ⟨hc1, ob, by rw [hLE A' k hlA hk]; exact e, by rw [hσg k hk]; exact r⟩
    | ptr k v i off => exact ⟨hc1, hRP _ _ _ _ _ hc1 hc⟩
    | mpv k =>
      rcases Nat.lt_or_ge k A.length with hk | hk
      · exact hlow (by simp only [bu]; exact decide_eq_true hk) ⟨hc1, hc⟩
      · obtain ⟨ob, e, r⟩ := hc
        exact ⟨hc1, ob, by rw [hLE A' k hlA hk]; exact e, by rw [hσg k hk]; exact r⟩
    | rwc k v =>
      rcases Nat.lt_or_ge k A.length with hk | hk
      · exact hlow (by simp only [bu]; exact decide_eq_true hk) ⟨hc1, hc⟩
      · obtain ⟨ob, e, r⟩ := hc
        exact ⟨hc1, ob, by rw [hLE A' k hlA hk]; exact e, by rw [hσg k hk]; exact r⟩
    | fn f caps =>
      obtain ⟨us, e, hall⟩ := hc
      refine ⟨hc1, us, e, hall.mono fun k u hk => ?_⟩
      cases k with
      | ref k => exact ⟨hk.1, hRP k 0 0 0 u hk.1 hk.2⟩
      | pat t d => exact hlow (c := .pat t d 0) rfl hk
      | pfn f ds => exact hlow (c := .pfn f ds) rfl hk
    | _ => exact hlow rfl ⟨hc1, hc⟩
  have hblk : ∀ b, b < w.heap.size → (¬ ∃ o, o < A.length ∧ own (A ++ E') σ o b) → w'.heap[b]? = w.heap[b]? := fun b hb hno => (g1.kept b ⟨hb, hno⟩).2
  refine ⟨σ3, ?_, ?_, ?_⟩
  · rw [eL]
    refine ⟨fun o ob e => ?_, fun o o' b q1 q2 => ?_, fun o b q => ?_, fun b hb => ?_, hI.xlt, Nat.le_trans hI.size g1.size, g1.os.trans hI.os, g1.tape.trans hI.tape, g1.output.trans hI.output⟩
    · rcases Nat.lt_or_ge o A.length with ho | ho
      · rw [List.getElem?_append_left (by omega)] at e
        have h1 := g1.ob o ob e
        cases ob with
        | dead _ => trivial
        | vars T cs => obtain ⟨b, vs, e1, e2, e3⟩ := h1; exact ⟨b, vs, by rw [hσl o ho]; exact e1, e2, e3.mono fun c u hcu => hcut3 hcu⟩
        | row t e v xs => obtain ⟨flat, h2, h0, h3⟩ := h1; exact ⟨flat, by rw [hσl o ho]; exact h2, h0, fun i hi => (h3 i hi).keep (Nat.le_refl _) (fun _ _ _ => rfl) fun b _ hb => (hav3 b).1 hb⟩
        | mp T vk es => obtain ⟨b, ents, clock, e1, e2, e3, e4, e5⟩ := h1; exact ⟨b, ents, clock, by rw [hσl o ho]; exact e1, e2, e3, e4, by rw [hP]; exact e5⟩
        | itr s pos => obtain ⟨b, e1, e2⟩ := h1; exact ⟨b, by rw [hσl o ho]; exact e1, e2⟩
        | fact g x => exact ⟨h1.1, fun hx => h1.2 ((hav3 g).1 hx)⟩
        | rowc e sz v cs => obtain ⟨flat, m, h2, h0, hl0, h3⟩ := h1; exact ⟨flat, m, by rw [hσl o ho]; exact h2, h0, hl0, h3.mono fun c u hcu => hcut3 hcu⟩
      · rw [hLE A' o hlA ho] at e
        have h1 := hI.ob o ob e
        have hfree : ∀ b, own (A ++ E') σ o b → w'.heap[b]? = w.heap[b]? := fun b hb1 => hblk b (eR hI hb1) fun ⟨o', ho', hb2⟩ => by have := hI.inj o o' b hb1 hb2; omega
        cases ob with
        | dead _ => trivial
        | vars T cs =>
          obtain ⟨b, vs, e1, e2, e3⟩ := h1
          refine ⟨b, vs, by rw [hσg o ho]; exact e1, ?_, e3.mono fun c u hc => hpres c u hc⟩
          rw [hfree b ⟨_, e, rfl, by rw [e1]; rfl⟩]; exact e2
        | row t e9 v xs =>
          obtain ⟨flat, h2, h0, h3⟩ := h1
          refine ⟨flat, ?_, h0, fun i hi => (h3 i hi).keep g1.size (fun b hb hna => hblk b hb fun ⟨o', _, hb2⟩ => hna (.inr ⟨o', hb2⟩)) (fun b hb hx => ?_)⟩
          · rw [hσg o ho]
            refine ⟨h2.1, ?_⟩
            rcases h2.2 with h4 | ⟨g, cap, cur, e1, hg, hh, r⟩
            · exact .inl h4
            · refine .inr ⟨g, cap, cur, e1, hg, ?_, r⟩
              rw [hfree g ⟨_, e, rfl, by rw [e1]; rfl⟩]; exact hh
          · rcases (hav3 b).1 hx with (hx | ⟨o', _, hx⟩) | ⟨o', hx⟩
            · exact .inl hx
            · exact .inr ⟨o', hx⟩
            · have hoff := (g1.off o' b hx).1
              rcases Classical.em (∃ o, o < A.length ∧ own (A ++ E') σ o b) with ⟨o2, _, h9⟩ | h9
              · exact .inr ⟨o2, h9⟩
              · exact absurd ⟨hb, h9⟩ hoff
        | mp T vk es =>
          obtain ⟨b, ents, clock, e1, e2, e3⟩ := h1
          refine ⟨b, ents, clock, by rw [hσg o ho]; exact e1, ?_, e3⟩
          rw [hfree b ⟨_, e, rfl, by rw [e1]; rfl⟩]; exact e2
        | rowc e9 sz v cs =>
          obtain ⟨flat, m, h2, h0, hl0, h3⟩ := h1
          refine ⟨flat, m, ?_, h0, hl0, h3.mono fun c u hc => hpres c u hc⟩
          rw [hσg o ho]
          refine ⟨h2.1, ?_⟩
          rcases h2.2 with h4 | ⟨g, cap, cur, e1, hg, hh, r⟩
          · exact .inl h4
          · refine .inr ⟨g, cap, cur, e1, hg, ?_, r⟩
            rw [hfree g ⟨_, e, rfl, by rw [e1]; rfl⟩]; exact hh
        | itr s pos =>
          obtain ⟨b, e1, e2⟩ := h1
          refine ⟨b, by rw [hσg o ho]; exact e1, ?_⟩
          rw [hfree b ⟨_, e, rfl, by rw [e1]; rfl⟩]; exact e2
        | fact g x =>
          obtain ⟨e1, e2⟩ := h1
          have hlt := (Array.getElem?_eq_some_iff.1 e1).1
          refine ⟨(hblk g hlt fun ⟨o', _, hb2⟩ => e2 (.inr ⟨o', hb2⟩)).trans e1, fun hx => ?_⟩
          rcases (hav3 g).1 hx with (q | ⟨o', _, q⟩) | ⟨o', q⟩
          · exact e2 (.inl q)
          · exact e2 (.inr ⟨o', q⟩)
          · exact (g1.off o' g q).1 ⟨hlt, fun ⟨o2, _, q2⟩ => e2 (.inr ⟨o2, q2⟩)⟩
    · rcases Nat.lt_or_ge o A.length with ho | ho <;> rcases Nat.lt_or_ge o' A.length with ho' | ho'
      · exact g1.inj o o' b ((hlo o b ho).1 q1) ((hlo o' b ho').1 q2)
      · exact absurd (.inr ⟨o', ho', (hhi o' b ho').1 q2⟩) (g1.off o b ((hlo o b ho).1 q1)).2
      · exact absurd (.inr ⟨o, ho, (hhi o b ho).1 q1⟩) (g1.off o' b ((hlo o' b ho').1 q2)).2
      · exact hI.inj o o' b ((hhi o b ho).1 q1) ((hhi o' b ho').1 q2)
    · rcases Nat.lt_or_ge o A.length with ho | ho
      · obtain ⟨k1, k2⟩ := g1.off o b ((hlo o b ho).1 q)
        refine ⟨fun hk => k1 ⟨Nat.lt_of_lt_of_le (hI.kept b hk).1 hI.size, fun ⟨o', _, h9⟩ => (hI.off o' b h9).1 hk⟩, fun hx => k2 (.inl hx)⟩
      · exact hI.off o b ((hhi o b ho).1 q)
    · have hk := hI.kept b hb
      refine ⟨hk.1, ?_⟩
      rw [hblk b (Nat.lt_of_lt_of_le hk.1 hI.size) fun ⟨o', _, h9⟩ => (hI.off o' b h9).1 hb]
      exact hk.2
  · rw [eL]
    exact qu (n := A.length) (fun b _ hb => (hav3 b).1 hb) (fun k hk => by rw [List.getElem?_append_left (by omega)]) hσl (by rw [← hlA]; exact sj g2) g2
  · rw [eL]; exact hpres

end Go.AV
