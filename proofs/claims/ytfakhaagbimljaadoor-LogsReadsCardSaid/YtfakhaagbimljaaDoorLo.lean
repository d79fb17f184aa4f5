/- Functions: from the body to the contract; calls with rows lent. -/
import Derived.Test.YtfakhaagbimljaaDoorLn
set_option linter.unusedSimpArgs false
set_option linter.unusedVariables false
namespace Go.AV
open Go Go.RowKit

def ia : Cap → Bool
  | .pat _ _ => true
  | .pfn _ _ => true
  | .ref _ => false
def fzC (L : List AO) : AC → AC
  | .row k ver => match L[k]? with
    | some (.row t _ v xs) => if ver = v then .list t xs else .junk
    | _ => .junk
  | .ptr _ _ _ _ => .junk
  | .fn f caps => if caps.all ia then .fn f caps else .junk
  | .mpv _ => .junk
  | .rwc _ _ => .junk
  | c => c
def fz1 (L : List AO) : AV → AV
  | .one c => .one (fzC L c)
  | .agg cs => .agg (cs.map (fzC L))
  | v => v
def fzV (L : List AO) : AV → AV
  | .tup vs => .tup (vs.map (fz1 L))
  | v => fz1 L v
def gh : AC → Bool
  | .row _ _ => false
  | .ptr _ _ _ _ => false
  | .fn _ caps => caps.all ia
  | .mpv _ => false
  | .rwc _ _ => false
  | _ => true
def fU : AV → Bool
  | .one c => gh c
  | .agg cs => cs.all gh
  | _ => true
def fu : AV → Bool
  | .tup vs => vs.all fU
  | v => fU v
def pp : AC → Bool
  | .int _ _ => true
  | .bool _ => true
  | .str _ => true
  | .nils => true
  | .junk => true
  | .emp => true
  | _ => false
def px : AV → Bool
  | .one c => pp c
  | .agg cs => cs.all pp
  | _ => true
def pm : AV → Bool
  | .tup vs => vs.all px
  | v => px v

theorem aR.weaken {α β : Type} {p q : α → β → Prop} : ∀ {as : List α} {bs : List β}, aR p as bs → (∀ a b, a ∈ as → p a b → q a b) → aR q as bs
  | [], [], _, _ => trivial
  | _ :: _, _ :: _, ⟨h1, h2⟩, h => ⟨h _ _ (List.mem_cons_self ..) h1, h2.weaken fun a b ha => h a b (List.mem_cons_of_mem _ ha)⟩
  | [], _ :: _, hh, _ => hh.elim
  | _ :: _, [], hh, _ => hh.elim
theorem aR.mapL {α β γ : Type} {p : α → β → Prop} {q : γ → β → Prop} {f : α → γ} : ∀ {as : List α} {bs : List β}, aR p as bs → (∀ a b, p a b → q (f a) b) → aR q (as.map f) bs
  | [], [], _, _ => trivial
  | _ :: _, _ :: _, ⟨h1, h2⟩, h => ⟨h _ _ h1, h2.mapL h⟩
  | [], _ :: _, hh, _ => hh.elim
  | _ :: _, [], hh, _ => hh.elim

section
variable {C C' : Ctx} {L L' : List AO} {σ σ' : Sig} {w : World}

theorem gQ (ha : ∀ b, b < w.heap.size → avd C' L' σ' b → avd C L σ b) {f : FuncId} {ds : List ((t : Ty) × t.den)} {u : Value} (h : RFN C L σ w f ds u) : RFN C' L' σ' w f ds u := by
  obtain ⟨b, o', vs, e, k1, k2, k3, k4⟩ := h
  refine ⟨b, o', vs, e, fun hx => k1 (ha b k2 hx), k2, k3, k4.mono fun p u hp => ⟨hp.1, ?_⟩⟩
  obtain ⟨b, o', cs, e, k1, k2, k3, k4⟩ := hp.2
  exact ⟨b, o', cs, e, fun hx => k1 (ha b k2 hx), k2, k3, k4.keep (Nat.le_refl _) (fun _ _ _ => rfl) ha⟩
theorem eG (ha : ∀ b, b < w.heap.size → avd C' L' σ' b → avd C L σ b) {c : AC} {u : Value} (hp : gh c = true) (h : RC C L σ w c u) : RC C' L' σ' w c u := by
  obtain ⟨h1, h2⟩ := h
  refine ⟨h1, ?_⟩
  cases c with
  | row _ _ => cases hp
  | ptr _ _ _ _ => cases hp
  | mpv _ => cases hp
  | rwc _ _ => cases hp
  | fn f caps =>
    obtain ⟨vs, e, hv⟩ := h2
    refine ⟨vs, e, hv.weaken fun c u hc hcu => ?_⟩
    have := List.all_eq_true.1 hp c hc
    cases c with
    | ref _ => cases this
    | pat t d =>
      obtain ⟨q0, b, o', cs, e, k1, k2, k3, k4⟩ := hcu
      exact ⟨q0, b, o', cs, e, fun hx => k1 (ha b k2 hx), k2, k3, k4.keep (Nat.le_refl _) (fun _ _ _ => rfl) ha⟩
    | pfn f ds => exact ⟨hcu.1, gQ ha hcu.2⟩
  | list t xs => exact Dat.keep (t := .list t) (Nat.le_refl _) (fun _ _ _ => rfl) ha h2
  | pat t d off =>
    obtain ⟨b, o', cs, e, k1, k2, k3, k4⟩ := h2
    exact ⟨b, o', cs, e, fun hx => k1 (ha b k2 hx), k2, k3, k4.keep (Nat.le_refl _) (fun _ _ _ => rfl) ha⟩
  | pfn f ds => exact gQ ha h2
  | _ => exact h2
theorem jx (ha : ∀ b, b < w.heap.size → avd C' L' σ' b → avd C L σ b) {v : AV} {u : Value} (hp : fU v = true) (h : RV1 C L σ w v u) : RV1 C' L' σ' w v u := by
  cases v with
  | undef => trivial
  | void => exact h
  | tup _ => exact h.elim
  | one c => exact eG ha hp h
  | agg cs =>
    obtain ⟨vs, e, hall⟩ := h
    exact ⟨vs, e, hall.weaken fun c u hc hcu => eG ha (List.all_eq_true.1 hp c hc) hcu⟩
theorem nS (ha : ∀ b, b < w.heap.size → avd C' L' σ' b → avd C L σ b) {v : AV} {u : Value} (hp : fu v = true) (h : RV C L σ w v u) : RV C' L' σ' w v u := by
  cases v with
  | tup vs =>
    obtain ⟨us, e, hall⟩ := h
    exact ⟨us, e, hall.weaken fun c u hc hcu => jx ha (List.all_eq_true.1 hp c hc) hcu⟩
  | undef => trivial
  | void => exact h
  | one c => exact jx (v := .one c) ha hp h
  | agg cs => exact jx (v := .agg cs) ha hp h

theorem oI {c : AC} {u : Value} (hp : pp c = true) (h : RC C L σ w c u) {w' : World} : RC C' L' σ' w' c u := by
  obtain ⟨h1, h2⟩ := h
  cases c <;> first | (cases hp; done) | exact ⟨h1, h2⟩
theorem jk {v : AV} {u : Value} (hp : px v = true) (h : RV1 C L σ w v u) {w' : World} : RV1 C' L' σ' w' v u := by
  cases v with
  | undef => trivial
  | void => exact h
  | tup _ => exact h.elim
  | one c => exact oI hp h
  | agg cs =>
    obtain ⟨vs, e, hall⟩ := h
    exact ⟨vs, e, hall.weaken fun c u hc hcu => oI (List.all_eq_true.1 hp c hc) hcu⟩
theorem sb {v : AV} {u : Value} (hp : pm v = true) (h : RV C L σ w v u) {w' : World} : RV C' L' σ' w' v u := by
  cases v with
  | tup vs =>
    obtain ⟨us, e, hall⟩ := h
    exact ⟨us, e, hall.weaken fun c u hc hcu => jk (List.all_eq_true.1 hp c hc) hcu⟩
  | undef => trivial
  | void => exact h
  | one c => exact jk (v := .one c) hp h
  | agg cs => exact jk (v := .agg cs) hp h

theorem rQ (hI : INV C L σ w) {c : AC} {u : Value} (h : RC C L σ w c u) : RC C [] σ' w (fzC L c) u := by
  have ha : ∀ b, b < w.heap.size → avd C [] σ' b → avd C L σ b := by
    rintro b _ (hx | ⟨j, ob, e1, _⟩)
    · exact .inl hx
    · simp at e1
  obtain ⟨h1, h2⟩ := h
  cases c with
  | row k ver =>
    simp only [fzC]
    obtain ⟨ob, h3, h4, h5⟩ := h2
    rw [h3]
    cases ob with
    | dead _ => exact ⟨h1, trivial⟩
    | vars _ _ => exact ⟨h1, trivial⟩
    | mp _ _ _ => exact ⟨h1, trivial⟩
    | rowc _ _ _ _ => exact ⟨h1, trivial⟩
    | itr _ _ => exact ⟨h1, trivial⟩
    | fact _ _ => exact ⟨h1, trivial⟩
    | row t e v xs =>
      simp only
      split
      · rename_i hv; subst hv
        obtain ⟨_, h6⟩ := h5 rfl rfl
        refine ⟨h1, ?_⟩
        show Dat _ w (.list t) xs [u]
        rw [h6]
        obtain ⟨flat, h8, h9, h10⟩ := hI.ob k _ h3
        rcases h8.2 with ⟨e1, e2⟩ | ⟨g, cap, cur, e1, _, e3, e4, e5, e6, e7⟩
        · rw [e1]
          have : xs = [] := List.eq_nil_of_length_eq_zero e2
          subst this
          exact db t
        · rw [e1]
          have hg : own L σ k g := ⟨_, h3, rfl, by rw [e1]; rfl⟩
          refine ⟨some ⟨g, 0, none⟩, cap, rfl, e4, ⟨e5, fun h => by cases h⟩, fun _ => ⟨g, 0, rfl, ?_, (Array.getElem?_eq_some_iff.1 e3).1, fun i hi => ⟨_, (h10 i hi).length, fun j hj => ?_, (h10 i hi).keep (Nat.le_refl _) (fun _ _ _ => rfl) ha⟩⟩⟩
          · rintro (hx | ⟨j, ob, q1, _⟩)
            · exact (hI.off k g hg).2 hx
            · simp at q1
          · have hm : (i + 1) * t.size ≤ xs.length * t.size := Nat.mul_le_mul_right _ hi
            rw [Nat.add_mul, Nat.one_mul] at hm
            rw [cT e3, List.getElem?_take_of_lt hj, List.getElem?_drop, ← e7, List.getElem?_take_of_lt (by omega)]
            simp
      · exact ⟨h1, trivial⟩
  | ptr _ _ _ _ => exact ⟨h1, trivial⟩
  | mpv _ => exact ⟨h1, trivial⟩
  | rwc _ _ => exact ⟨h1, trivial⟩
  | fn f caps =>
    simp only [fzC]
    split
    · rename_i hp
      exact eG (c := .fn f caps) ha hp ⟨h1, h2⟩
    · exact ⟨h1, trivial⟩
  | emp => exact ⟨h1, h2⟩
  | exact _ => exact ⟨h1, h2⟩
  | junk => exact ⟨h1, trivial⟩
  | int _ _ => exact ⟨h1, h2⟩
  | bool _ => exact ⟨h1, h2⟩
  | str _ => exact ⟨h1, h2⟩
  | nils => exact ⟨h1, h2⟩
  | nilp => exact ⟨h1, h2⟩
  | list t xs => exact eG (c := .list t xs) ha rfl ⟨h1, h2⟩
  | pat t d off => exact eG (c := .pat t d off) ha rfl ⟨h1, h2⟩
  | pfn f ds => exact eG (c := .pfn f ds) ha rfl ⟨h1, h2⟩
theorem mX (hI : INV C L σ w) {v : AV} {u : Value} (h : RV1 C L σ w v u) : RV1 C [] σ' w (fz1 L v) u := by
  cases v with
  | undef => trivial
  | void => exact h
  | tup _ => exact h.elim
  | one c => exact rQ hI h
  | agg cs => obtain ⟨vs, e, hall⟩ := h; exact ⟨vs, e, hall.mapL fun c u hc => rQ hI hc⟩
theorem su (hI : INV C L σ w) {v : AV} {u : Value} (h : RV C L σ w v u) : RV C [] σ' w (fzV L v) u := by
  cases v with
  | tup vs => obtain ⟨us, e, hall⟩ := h; exact ⟨us, e, hall.mapL fun c u hc => mX hI hc⟩
  | undef => trivial
  | void => exact h
  | one c => exact mX (v := .one c) hI h
  | agg cs => exact mX (v := .agg cs) hI h

theorem m9 (c : AC) : gh (fzC L c) = true := by
  cases c with
  | row k v =>
    simp only [fzC]
    split
    · split <;> rfl
    · rfl
  | fn f caps =>
    simp only [fzC]
    split
    · rename_i h; exact h
    · rfl
  | _ => rfl
theorem ja (v : AV) : fU (fz1 L v) = true := by
  cases v with
  | one c => exact m9 c
  | agg cs => simp only [fz1, fU, List.all_map]; exact List.all_eq_true.2 fun c _ => m9 c
  | _ => rfl
theorem rk (v : AV) : fu (fzV L v) = true := by
  cases v with
  | tup vs => simp only [fzV, fu, List.all_map]; exact List.all_eq_true.2 fun c _ => ja c
  | undef => rfl
  | void => rfl
  | one c => exact ja (.one c)
  | agg cs => exact ja (.agg cs)
end

def gl (P : Program) (s : St) : List ResultVar → Option (List AV)
  | [] => some []
  | .tmp t :: r => match lkp s.env t, gl P s r with
    | .tup _, _ => none
    | v, some vs => some (v :: vs)
    | _, none => none
  | .cell a T :: r => match aE P T, lkp s.env a, gl P s r with
    | some td, .one (.ptr k 0 0 0), some vs => match bU s.L k 0 0 with
      | some cs => match bC td cs 0 with
        | some v => some (v :: vs)
        | none => none
      | none => none
    | _, _, _ => none
def ss (P : Program) (s : St) (rs : List ResultVar) : Option AV :=
  match gl P s rs with
  | some [v] => some v
  | some vs => some (.tup vs)
  | none => none

theorem lC {td : TD} {cs : List AC} {off : Nat} {v : AV} (h : bC td cs off = some v) : ∀ vs, v ≠ .tup vs := by
  intro vs e
  subst e
  unfold bC at h
  split at h
  · split at h <;> simp at h
  · split at h <;> simp at h

def kn (tmps : Array Value) : ResultVar → Sem Value
  | .tmp t => pure (tmps.getD t undef)
  | .cell b t => do loadVar t (← asAddr (tmps.getD b undef))
theorem nO (fn : Func) (tmps : Array Value) : results fn tmps = (do let vs ← fn.results.mapM (kn tmps); pure (if h : vs.size = 1 then vs[0] else .tuple vs)) := by
  unfold results
  congr 1

theorem ig {C : Ctx} {s : St} {σ : Sig} {a : Act} {w : World} (hr : REL C s σ a w) : ∀ {rs : List ResultVar} {vs : List AV}, gl C.P s rs = some vs →
    ∃ us : List Value, (rs.mapM (kn a.tmps)).run C.P w = .ok us w ∧ aR (RV1 C s.L σ w) vs us
  | [], vs, h => by
    simp only [gl, Option.some.injEq] at h; subst h
    exact ⟨[], rfl, trivial⟩
  | .tmp t :: r, vs, h => by
    simp only [gl] at h
    split at h
    · cases h
    · rename_i vs' h1 hv
      simp only [Option.some.injEq] at h; subst h
      obtain ⟨us, h2, h3⟩ := ig hr h1
      refine ⟨a.tmps.getD t undef :: us, ?_, ?_, h3⟩
      · simp only [List.mapM_cons, Sem.run_bind, kn, Sem.run_pure, Result.andThen_ok, h2]
      · have := hr.env t
        cases hl : lkp s.env t with
        | tup x => exact absurd hl (hv x)
        | undef => trivial
        | void => rw [hl] at this; exact this
        | one c => rw [hl] at this; exact this
        | agg cs => rw [hl] at this; exact this
    · cases h
  | .cell b T :: r, vs, h => by
    simp only [gl] at h
    split at h
    · rename_i td k vs' ht hl h1
      split at h
      · rename_i cs hcs
        split at h
        · rename_i v hv
          simp only [Option.some.injEq] at h; subst h
          obtain ⟨us, h2, h3⟩ := ig hr h1
          have h4 := hr.env b
          rw [hl] at h4
          obtain ⟨g, base, vs0, e, _, ha, hc⟩ := dF hr.inv hcs h4.2
          obtain ⟨u, hu, hrv⟩ := eH ht ha hc hv
          refine ⟨u :: us, ?_, ?_, h3⟩
          · have hu' : (loadVar T ⟨g, base + 0, none⟩).run C.P w = .ok u w := by
              simpa [Instr.loadAt, Instr.sureAddr] using hu
            simp only [List.mapM_cons, Sem.run_bind, kn, e, asAddr, Sem.run_pure, Result.andThen_ok, hu', h2]
          · have hnt := lC hv
            cases v with
            | tup x => exact absurd rfl (hnt x)
            | undef => trivial
            | void => exact hrv
            | one c => exact hrv
            | agg cs => exact hrv
        · cases h
      · cases h
    · cases h

theorem jI {C : Ctx} {s : St} {σ : Sig} {a : Act} {w : World} {fn : Func} {v : AV} (hr : REL C s σ a w) (h : ss C.P s fn.results.toList = some v) :
    ∃ u, (results fn a.tmps).run C.P w = .ok u w ∧ RV C s.L σ w v u := by
  unfold ss at h
  cases hres : gl C.P s fn.results.toList with
  | none => rw [hres] at h; cases h
  | some vs =>
    rw [hres] at h
    obtain ⟨us, h1, h2⟩ := ig hr hres
    have hrun : ∀ u, (if h : us.toArray.size = 1 then us.toArray[0] else Value.tuple us.toArray) = u → (results fn a.tmps).run C.P w = .ok u w := by
      intro u hu
      rw [nO]
      simp only [Array.mapM_eq_mapM_toList, Sem.run_bind, Sem.run_map]
      rw [h1]
      simp only [Result.andThen_ok, Sem.run_pure]
      rw [hu]
    cases vs with
    | nil =>
      simp only [Option.some.injEq] at h; subst h
      have := h2.none; subst this
      exact ⟨.tuple #[], hrun _ rfl, [], rfl, trivial⟩
    | cons x vs =>
      cases vs with
      | nil =>
        simp only [Option.some.injEq] at h; subst h
        obtain ⟨u, rfl, hu⟩ := h2.one
        refine ⟨u, hrun u rfl, ?_⟩
        cases x with
        | tup y => exact hu.elim
        | _ => exact hu
      | cons y vs =>
        simp only [Option.some.injEq] at h; subst h
        refine ⟨.tuple us.toArray, hrun _ ?_, us, rfl, h2⟩
        have hl := h2.length
        simp only [List.length_cons] at hl
        rw [dif_neg (by simp; omega)]

def aJ : Nat → List AV → Env
  | _, [] => []
  | i, a :: r => (i, a) :: aJ (i + 1) r

theorem gc : ∀ (i : Nat) (args : List AV) (t : Nat), lkp (aJ i args) t = if i ≤ t then (args[t - i]?).getD .undef else .undef
  | i, [], t => by simp [aJ, lkp]
  | i, a :: r, t => by
    simp only [aJ, lkp]
    rw [gc (i + 1) r t]
    by_cases e : t = i
    · subst e; simp
    · rw [if_neg e]
      by_cases h : i ≤ t
      · rw [if_pos (by omega), if_pos h, show t - i = (t - (i + 1)) + 1 by omega]
        simp
      · rw [if_neg (by omega), if_neg h]

def Ctx.start (P : Program) (av : Nat → Prop) (w : World) (N : Nat) : Ctx := { P := P, X := av, keep := fun b => b < w.heap.size, w0 := w, N := N, bL := [], bσ := fun _ => undef, bw := w }

theorem pJ {P : Program} {av : Nat → Prop} {w : World} {N : Nat} {σ : Sig} (h : ∀ b, av b → b < w.heap.size) : INV (Ctx.start P av w N) [] σ w :=
  ⟨fun o ob e => by simp at e, fun o o' b ⟨ob, e, _⟩ => by simp at e, fun o b ⟨ob, e, _⟩ => by simp at e, fun b hb => ⟨hb, rfl⟩, h, Nat.le_refl _, rfl, rfl, rfl⟩

theorem rj {P : Program} {av : Nat → Prop} {w : World} {N : Nat} {σ σ' : Sig} : cC (Ctx.start P av w N) [] σ w [] σ' w := by
  intro c u h
  have ha : ∀ b, b < w.heap.size → avd (Ctx.start P av w N) [] σ' b → avd (Ctx.start P av w N) [] σ b := by
    rintro b _ (hx | ⟨o, ob, e, _⟩)
    · exact .inl hx
    · simp at e
  by_cases hp : gh c = true
  · exact eG ha hp h
  · cases c with
    | row k v => obtain ⟨_, ob, e, _⟩ := h; simp at e
    | ptr k v i off => obtain ⟨_, ob, e, _⟩ := h; simp at e
    | mpv k => obtain ⟨_, ob, e, _⟩ := h; simp at e
    | rwc k v => obtain ⟨_, ob, e, _⟩ := h; simp at e
    | fn f caps =>
      obtain ⟨h0, vs, e, hv⟩ := h
      exfalso
      apply hp
      refine List.all_eq_true.2 fun c hc => ?_
      obtain ⟨i, hi⟩ := List.getElem?_of_mem hc
      obtain ⟨u, _, hu⟩ := hv.at_ hi
      cases c with
      | ref k => obtain ⟨_, ob, e, _⟩ := hu; simp at e
      | pfn f ds => rfl
      | pat t d => rfl
    | _ => exact absurd rfl hp

def pV (P : Program) (fn : Func) (R : St → AV → Prop) : Exit → St → Prop := fun e s' => (e = .normal ∨ e = .ret) ∧ ∃ v, ss P s' fn.results.toList = some v ∧ R s' v

theorem hM {P : Program} {f : FuncId} {fn : Func} {c : Code} {args : List AV} {R : St → AV → Prop} (hf : P.funcs[f]? = some fn) (hb : fn.body = some c) (hn : args.length ≤ fn.ntmps) (hp : args.all fu = true)
    (h : ∀ C, C.P = P → C.N = fn.ntmps → C.bL = [] → AWP C c (pV P fn R) { env := aJ 0 args, L := [] })
    {C : Ctx} {L : List AO} {σ : Sig} {w : World} {vs : List Value} (hI : INV C L σ w) (ha : aR (RV C L σ w) args vs) :
    Calls P f vs.toArray w fun e w' => ∃ s' σ' v u, e = .returned u ∧ R s' v ∧ INV (Ctx.start P (avd C L σ) w fn.ntmps) s'.L σ' w' ∧ RV (Ctx.start P (avd C L σ) w fn.ntmps) s'.L σ' w' v u := by
  have hlt : ∀ b, avd C L σ b → b < w.heap.size := by
    rintro b (hx | ⟨o, ho⟩)
    · exact Nat.lt_of_lt_of_le (hI.xlt b hx) hI.size
    · exact eR hI ho
  have hl := ha.length
  refine calls_of_wp hf hb (wp_mono (h (Ctx.start P (avd C L σ) w fn.ntmps) rfl rfl rfl σ _ w ⟨pJ hlt, fun t => ?_, by simp [Ctx.start]; omega, rfl, rj⟩) fun e a' w' ⟨s', σ', h1, h2⟩ => ?_)
  · rw [gc, if_pos (Nat.zero_le _), Nat.sub_zero]
    cases ht : args[t]? with
    | none => trivial
    | some a =>
      obtain ⟨u, hu, hru⟩ := ha.at_ ht
      have : (vs.toArray ++ Array.replicate (fn.ntmps - vs.toArray.size) undef).getD t undef = u := by
        have htl : t < vs.length := (List.getElem?_eq_some_iff.1 hu).1
        simp only [Array.getD_eq_getD_getElem?]
        rw [Array.getElem?_append_left (by simpa using htl)]
        simp [hu]
      rw [this]
      exact nS (fun b _ hb => by
        rcases hb with hx | ⟨o, ob, e, _⟩
        · exact hx
        · simp at e) (List.all_eq_true.1 hp a (List.mem_of_getElem? ht)) hru
  · obtain ⟨he, v, hv, hR⟩ := h1
    obtain ⟨u, hu, hru⟩ := jI h2 hv
    have hfin : a'.defers = [] ∧ ∃ v, (results fn a'.tmps).run P w' = .ok v w' ∧ ∃ s' σ' v' u, Ending.returned v = .returned u ∧ R s' v' ∧ INV (Ctx.start P (avd C L σ) w fn.ntmps) s'.L σ' w' ∧ RV (Ctx.start P (avd C L σ) w fn.ntmps) s'.L σ' w' v' u :=
      ⟨h2.defers, u, hu, s', σ', v, u, rfl, hR, h2.inv, hru⟩
    rcases he with rfl | rfl
    · exact hfin
    · exact hfin

theorem gp {P : Program} {av : Nat → Prop} {w w' : World} {N : Nat} {L : List AO} {σ : Sig} (h : INV (Ctx.start P av w N) L σ w') : MORE w w' :=
  ⟨h.size, h.os, h.tape, h.output, fun b hb => (h.kept b hb).2⟩

def fpV : AV → List Nat
  | .one c => dh c
  | .agg cs => cs.flatMap dh
  | _ => []
theorem me {L L' : List AO} {c : AC} (h : ∀ k, k ∈ dh c → L[k]? = L'[k]?) : fzC L c = fzC L' c := by
  cases c with
  | row k v => simp only [fzC]; rw [h k (by simp [dh])]
  | _ => rfl
theorem qG {L L' : List AO} {v : AV} (h : ∀ k, k ∈ fpV v → L[k]? = L'[k]?) (hnt : ∀ vs, v ≠ .tup vs) : fzV L v = fzV L' v := by
  cases v with
  | tup vs => exact absurd rfl (hnt vs)
  | undef => rfl
  | void => rfl
  | one c => simp only [fzV, fz1]; rw [me h]
  | agg cs =>
    simp only [fzV, fz1]
    congr 1
    exact List.map_congr_left fun c hc => me fun k hk => h k (List.mem_flatMap.2 ⟨c, hc, hk⟩)

def tk : AV → Bool
  | .tup _ => false
  | _ => true

theorem oY {P : Program} {L0 : List AO} {f : FuncId} {args : List AV} {r : AV} (hnt : args.all tk = true) (h : aW P f (args.map (fzV L0)) r) (hs : pm r = true) : cu P L0 f args { av := r, fp := args.flatMap fpV } := by
  refine ⟨h.1, fun C L σ w vs hP hi ha hfp _ => ?_⟩
  have hI2 : INV C [] σ w := ⟨fun o ob e => by simp at e, fun o o' b ⟨ob, e, _⟩ => by simp at e, fun o b ⟨ob, e, _⟩ => by simp at e, hi.kept, hi.xlt, hi.size, hi.os, hi.tape, hi.output⟩
  have ha2 : aR (RV C [] σ w) (args.map (fzV L0)) vs := by
    have : ∀ (as : List AV) (us : List Value), (∀ a, a ∈ as → a ∈ args) → aR (RV C L σ w) as us → aR (RV C [] σ w) (as.map (fzV L0)) us := by
      intro as
      induction as with
      | nil => intro us _ hh; cases us with | nil => trivial | cons _ _ => exact hh.elim
      | cons a as ih =>
        intro us hm hh
        cases us with
        | nil => exact hh.elim
        | cons u us =>
          refine ⟨?_, ih us (fun b hb => hm b (List.mem_cons_of_mem _ hb)) hh.2⟩
          have hma := hm a (List.mem_cons_self ..)
          rw [← qG (L := L) (L' := L0) (fun k hk => hfp k (List.mem_flatMap.2 ⟨a, hma, hk⟩)) (fun ws e => by
            have := List.all_eq_true.1 hnt a hma
            rw [e] at this; cases this)]
          exact su hi hh.1
    exact this args vs (fun _ h => h) ha
  refine (h.2 C [] σ w vs hP hI2 ha2).mono fun e w' hh => ?_
  obtain ⟨v, e1, hm, hr⟩ := hh
  exact ⟨v, e1, eF hi hm.size hm.os hm.tape hm.output hm.block fun _ _ => sb hs hr⟩

def rV (P : Program) (f : FuncId) (args : List AV) (t : Ty) (e : TypeId) (xs : List t.den) : Prop :=
  gR P f ∧ ∀ C L σ w vs, C.P = P → INV C L σ w → aR (RV C L σ w) args vs →
    Calls P f vs.toArray w fun en w' => ∃ v flat, en = .returned v ∧ MORE w w' ∧ w'.ownsRow w.heap.size e t.size v xs.length flat ∧ 0 < t.size ∧
      ∀ i, i < xs.length → Dat (fun b => avd C L σ b ∨ blk v = some b) w' t (xs.getD i t.dflt) ((flat.drop (i * t.size)).take t.size)

theorem mZ {P : Program} {f : FuncId} {fn : Func} {c : Code} {args : List AV} {t : Ty} {e : TypeId} {xs : List t.den} (hf : P.funcs[f]? = some fn) (hb : fn.body = some c) (hname : (fn.name == "runtime.NumGoroutine") = false) (hn : args.length ≤ fn.ntmps) (hp : args.all fu = true)
    (h : ∀ C, C.P = P → C.N = fn.ntmps → C.bL = [] → AWP C c (pV P fn fun s' v => ∃ k ver, v = .one (.row k ver) ∧ s'.L[k]? = some (.row t e ver xs)) { env := aJ 0 args, L := [] }) : rV P f args t e xs := by
  refine ⟨⟨fn, hf, hname, by rw [hb]; rfl⟩, fun C L σ w vs hP hI ha => ?_⟩
  refine (hM hf hb hn hp h hI ha).mono fun en w' hh => ?_
  obtain ⟨s', σ', v, u, rfl, ⟨k, ver, rfl, hk⟩, h1, h2⟩ := hh
  obtain ⟨_, ob, h3, h4, h5⟩ := h2
  rw [hk] at h3; cases h3
  obtain ⟨_, h6⟩ := h5 rfl rfl
  obtain ⟨flat, h8, h9, h10⟩ := h1.ob k _ hk
  refine ⟨u, flat, rfl, gp h1, ?_, h9, fun i hi => (h10 i hi).keep (Nat.le_refl _) (fun _ _ _ => rfl) ?_⟩
  · rw [h6]
    refine ⟨h8.1, ?_⟩
    rcases h8.2 with h | ⟨g, cap, cur, e1, _, e3, r⟩
    · exact .inl h
    · refine .inr ⟨g, cap, cur, e1, ?_, e3, r⟩
      have := (h1.off k g ⟨_, hk, rfl, by rw [e1]; rfl⟩).1
      exact Nat.le_of_not_lt this
  · rintro b _ (hb | hb)
    · exact .inl hb
    · rw [h6] at hb
      exact .inr ⟨k, _, hk, rfl, hb⟩

theorem pP {P : Program} {L0 : List AO} {f : FuncId} {args : List AV} {t : Ty} {e : TypeId} {xs : List t.den} (h : rV P f args t e xs) : cu P L0 f args { av := .one (.row L0.length 0), new := [.row t e 0 xs] } := by
  refine ⟨h.1, fun C L σ w vs hP hi ha _ hlen => (h.2 C L σ w vs hP hi ha).mono fun en w' hh => ?_⟩
  obtain ⟨v, flat, e1, hm, ho, h0, hd⟩ := hh
  have hblk : blk v = v.ownBlock := cJ (bB ho)
  refine ⟨v, e1, ?_⟩
  rw [← hlen]
  have hbase : ∀ b, blk v = some b → w.heap.size ≤ b := fun b hb => (ho.lt b (by rw [← hblk]; exact hb)).1
  refine ch (g := v) hi hm.size hm.os hm.tape hm.output hm.block hbase (fun _ => ?_) ?_
  · refine ⟨flat, ?_, h0, fun i hi' => (hd i hi').keep (Nat.le_refl _) (fun _ _ _ => rfl) ?_⟩
    · rw [aG]
      refine ⟨ho.1, ?_⟩
      rcases ho.2 with h | ⟨g, cap, cur, e1, _, r⟩
      · exact .inl h
      · exact .inr ⟨g, cap, cur, e1, Nat.zero_le _, r⟩
    · rintro b _ (hx | ⟨j, ob, q1, q2, q3⟩)
      · exact .inl (.inl hx)
      · by_cases ej : j = L.length
        · subst ej; rw [aG] at q3; exact .inr q3
        · rw [bS σ v ej] at q3
          have hjl : j < L.length := by
            have := (List.getElem?_eq_some_iff.1 q1).1
            simp at this; omega
          rw [List.getElem?_append_left hjl] at q1
          exact .inl (.inr ⟨j, ob, q1, q2, q3⟩)
  · refine ⟨?_, .row t e 0 xs, by simp, Nat.le_refl _, fun _ _ => ⟨⟨_, _, _, rfl⟩, by rw [aG]⟩⟩
    rcases ho.2 with ⟨rfl, _⟩ | ⟨g, cap, cur, rfl, _⟩ <;> rfl

theorem kV {C : Ctx} {L : List AO} {σ : Sig} {w : World} {t : Ty} {xs : List t.den} {u : Value} (h : RV C L σ w (.one (.list t xs)) u) :
    (xs = [] ∧ RV C L σ w (.one .nils) u) ∨ (xs = [] ∧ RV C L σ w (.one .emp) u) ∨ 0 < xs.length := by
  rcases Nat.eq_zero_or_pos xs.length with h0 | h0
  · have hx : xs = [] := List.eq_nil_of_length_eq_zero h0
    obtain ⟨h1, A, c, e, hc, hm, _⟩ := h
    simp only [List.cons.injEq, and_true] at e
    subst e
    subst hx
    cases A with
    | none => exact .inl ⟨rfl, rfl, by rw [hm.2 rfl]; rfl⟩
    | some a => exact .inr (.inl ⟨rfl, rfl, a, c, rfl, hm.1⟩)
  · exact .inr (.inr h0)

end Go.AV
