/- Objects that change no more; objects lent to a callee. -/
import Derived.Test.YtmfkpljjhiglpaaGreatDoorLr
set_option linter.unusedSimpArgs false
set_option linter.unusedVariables false
namespace Go.AV
open Go Go.RowKit

section
variable {C C' : Ctx} {L L' : List AO} {σ σ' : Sig} {w : World}
end

def mvC (m : Nat) : AC → AC
  | .ptr 0 v i off => .ptr m v i off
  | c => c
def mv1 (m : Nat) : AV → AV
  | .one c => .one (mvC m c)
  | v => v

def CLE (a b : AC) : Prop := ∀ C L σ w u, RC C L σ w a u → RC C L σ w b u
def vd (a b : AV) : Prop := ∀ C L σ w u, RV1 C L σ w a u → RV1 C L σ w b u
def VLE (a b : AV) : Prop := ∀ C L σ w u, RV C L σ w a u → RV C L σ w b u
theorem CLE.refl (a : AC) : CLE a a := fun _ _ _ _ _ h => h
theorem CLE.of_eq {a b : AC} (e : a = b) : CLE a b := e ▸ .refl a
theorem VLE.of_eq {a b : AV} (e : a = b) : VLE a b := e ▸ fun _ _ _ _ _ h => h
theorem dn {t : Ty} {xs : List t.den} (h : xs = []) : CLE .nils (.list t xs) := fun C L σ w u hu => by
  subst h
  obtain ⟨h1, h2⟩ := hu
  have e : u = .slice none 0 0 := h2
  subst e
  exact ⟨rfl, bT t⟩
theorem tI {a b : AC} (h : CLE a b) : vd (.one a) (.one b) := fun C L σ w u hu => h C L σ w u hu
theorem qY {a b : AC} (h : CLE a b) : VLE (.one a) (.one b) := fun C L σ w u hu => h C L σ w u hu
theorem aV.map2 {α β γ : Type} {r : α → β → Prop} {p : α → γ → Prop} {q : β → γ → Prop} (h : ∀ a b c, r a b → p a c → q b c) : ∀ {as : List α} {bs : List β} {cs : List γ}, aV r as bs → aV p as cs → aV q bs cs
  | [], [], [], _, _ => trivial
  | _ :: _, _ :: _, _ :: _, ⟨a1, a2⟩, ⟨b1, b2⟩ => ⟨h _ _ _ a1 b1, a2.map2 h b2⟩
  | [], _ :: _, _, hh, _ => hh.elim
  | _ :: _, [], _, hh, _ => hh.elim
  | [], [], _ :: _, _, hh => hh.elim
  | _ :: _, _ :: _, [], _, hh => hh.elim
theorem sV {as bs : List AC} (h : aV CLE as bs) : vd (.agg as) (.agg bs) := fun C L σ w u ⟨vs, e, ha⟩ => ⟨vs, e, h.map2 (fun a b c hab hac => hab C L σ w c hac) ha⟩
theorem qJ {as bs : List AV} (h : aV vd as bs) : VLE (.tup as) (.tup bs) := fun C L σ w u ⟨vs, e, ha⟩ => ⟨vs, e, h.map2 (fun a b c hab hac => hab C L σ w c hac) ha⟩

theorem aR {P : Program} {f : FuncId} {fn : Func} {c : Code} {args : List AV} {r : AV} (hf : P.funcs[f]? = some fn) (hb : fn.body = some c) (hname : (fn.name == "runtime.NumGoroutine") = false) (hn : args.length ≤ fn.ntmps) (hp : args.all nH = true)
    (h : ∀ C, C.P = P → C.N = fn.ntmps → C.bL = [] → AWP C c (ux P fn fun s' v => VLE (fzV s'.L v) r) { env := aX 0 args, L := [] }) : bH P f args r := by
  refine ⟨⟨fn, hf, hname, by rw [hb]; rfl⟩, fun C L σ w vs hP hI ha => ?_⟩
  refine (o2 hf hb hn hp h hI ha).mono fun e w' hh => ?_
  obtain ⟨s', σ', v, u, rfl, hR, h1, h2⟩ := hh
  refine ⟨u, rfl, ng h1, hR _ _ _ _ _ ?_⟩
  exact qQ (fun b _ hb => .inl hb) (sX v) (xa (σ' := σ') h1 h2)

def Fit : (t : Ty) → t.den → Prop
  | .list t, xs => List.length xs ≤ 9223372036854775807 ∧ ∀ i, i < List.length xs → Fit t (List.getD xs i t.dflt)
  | .pair a b, (x, y) => Fit a x ∧ Fit b y
  | _, _ => True
def kw : AC → Prop
  | .list t xs => Fit (.list t) xs
  | .pat t d _ => Fit t d
  | _ => True
def kg : List AC → Prop
  | [] => True
  | c :: r => kw c ∧ kg r
def lz : AV → Prop
  | .one c => kw c
  | .agg cs => kg cs
  | _ => True
theorem Dat.fit {av : Nat → Prop} {w : World} : ∀ {t : Ty} {d : t.den} {cs : List Value}, Dat av w t d cs → Fit t d
  | .int _, _, _, _ => trivial
  | .bool, _, _, _ => trivial
  | .str, _, _, _ => trivial
  | .unit, _, _, _ => trivial
  | .pair a b, (x, y), cs, h => by
    simp only [Dat] at h
    obtain ⟨c1, c2, _, h1, h2⟩ := h
    exact ⟨h1.fit, h2.fit⟩
  | .list t, xs, cs, h => by
    simp only [Dat] at h
    obtain ⟨A, c, _, hc, hm, hr⟩ := h
    refine ⟨?_, fun i hi => ?_⟩
    · have := hm.1; simp only [maxLen] at this; omega
    · obtain ⟨b, o, _, _, _, hi'⟩ := hr (by omega)
      obtain ⟨cs', _, _, hd⟩ := hi' i hi
      exact hd.fit
theorem RC.fit {C : Ctx} {L : List AO} {σ : Sig} {w : World} {c : AC} {u : Value} (h : RC C L σ w c u) : kw c := by
  cases c with
  | list t xs => exact Dat.fit (t := .list t) h.2
  | pat t d off => obtain ⟨_, b, o, cs, _, _, _, _, hd⟩ := h; exact hd.fit
  | _ => trivial
theorem RV.fit {C : Ctx} {L : List AO} {σ : Sig} {w : World} {v : AV} {u : Value} (h : RV C L σ w v u) : lz v := by
  cases v with
  | one c => exact RC.fit h
  | agg cs =>
    obtain ⟨vs, _, ha⟩ := h
    have : ∀ (cs : List AC) (vs : List Value), aV (fun c u => RC C L σ w c u) cs vs → kg cs := by
      intro cs
      induction cs with
      | nil => intro _ _; trivial
      | cons c cs ih =>
        intro vs h
        cases vs with
        | nil => exact h.elim
        | cons v vs => exact ⟨h.1.fit, ih vs h.2⟩
    exact this cs vs ha
  | _ => trivial
theorem gx {C : Ctx} {Q : Exit → St → Prop} {s : St} {c : Code} (k : Nat) {v : AV} (hk : lkp s.env k = v) (h : lz v → AWP C c Q s) : AWP C c Q s := fun σ a w hr => by
  have h1 := hr.env k
  rw [hk] at h1
  exact h h1.fit σ a w hr

def cw (n : Nat) : AC → Bool
  | .row k _ => decide (k < n)
  | .ptr k _ _ _ => decide (k < n)
  | .mpv k => decide (k < n)
  | .rwc k _ => decide (k < n)
  | .fn _ caps => caps.all fun
    | .ref k => decide (k < n)
    | .pat _ _ => true
    | .pfn _ _ => true
  | _ => true
def ro (n : Nat) : AV → Bool
  | .one c => cw n c
  | .agg cs => cs.all (cw n)
  | _ => true
def mz (n : Nat) : AV → Bool
  | .tup vs => vs.all (ro n)
  | v => ro n v
def jt (n : Nat) : AO → Bool
  | .vars _ cs => cs.all (cw n)
  | .rowc _ _ _ cs => cs.all (cw n)
  | _ => true
theorem qt {n m : Nat} (h : n ≤ m) {c : AC} (hc : cw n c = true) : cw m c = true := by
  cases c with
  | row k v => simp only [cw, decide_eq_true_eq] at *; omega
  | ptr k v i o => simp only [cw, decide_eq_true_eq] at *; omega
  | mpv k => simp only [cw, decide_eq_true_eq] at *; omega
  | rwc k v => simp only [cw, decide_eq_true_eq] at *; omega
  | fn f caps =>
    simp only [cw] at *
    refine List.all_eq_true.2 fun c hc' => ?_
    have := List.all_eq_true.1 hc c hc'
    cases c with
    | ref k => simp only [decide_eq_true_eq] at *; omega
    | pat _ _ => rfl
    | pfn _ _ => rfl
  | _ => rfl
theorem vb {C : Ctx} {L : List AO} {σ : Sig} {w : World} {c : AC} {u : Value} (h : RC C L σ w c u) : cw L.length c = true := by
  cases c with
  | row k v => obtain ⟨_, ob, e, _⟩ := h; simp only [cw, decide_eq_true_eq]; exact (List.getElem?_eq_some_iff.1 e).1
  | ptr k v i o => obtain ⟨_, ob, e, _⟩ := h; simp only [cw, decide_eq_true_eq]; exact (List.getElem?_eq_some_iff.1 e).1
  | mpv k => obtain ⟨_, ob, e, _⟩ := h; simp only [cw, decide_eq_true_eq]; exact (List.getElem?_eq_some_iff.1 e).1
  | rwc k v => obtain ⟨_, ob, e, _⟩ := h; simp only [cw, decide_eq_true_eq]; exact (List.getElem?_eq_some_iff.1 e).1
  | fn f caps =>
    obtain ⟨_, vs, _, ha⟩ := h
    refine List.all_eq_true.2 fun c hc => ?_
    obtain ⟨i, hi⟩ := List.getElem?_of_mem hc
    obtain ⟨u, _, hu⟩ := ha.at_ hi
    cases c with
    | ref k => obtain ⟨_, ob, e, _⟩ := hu; simp only [decide_eq_true_eq]; exact (List.getElem?_eq_some_iff.1 e).1
    | pat _ _ => rfl
    | pfn _ _ => rfl
  | _ => rfl

theorem tn {C : Ctx} {Q : Exit → St → Prop} {s : St} {c : Code} {L1 : List AO} {ver n : Nat} (hL : s.L = L1 ++ [.dead ver]) (hn : L1.length = n) (hB : C.bL.length ≤ n) (he : s.env.all (fun x => mz n x.2) = true) (ho : L1.all (jt n) = true)
    (h : AWP C c Q { env := s.env, L := L1 }) : AWP C c Q s := by
  intro σ a w hr
  subst hn
  have hlt : ∀ {k : Nat}, k < L1.length → s.L[k]? = L1[k]? := fun hk => by rw [hL, List.getElem?_append_left hk]
  have hown : ∀ j b, own s.L σ j b ↔ own L1 σ j b := by
    intro j b
    constructor
    · rintro ⟨ob, e1, e2, e3⟩
      rcases Nat.lt_or_ge j L1.length with hj | hj
      · exact ⟨ob, by rw [← hlt hj]; exact e1, e2, e3⟩
      · rw [hL, List.getElem?_append_right hj] at e1
        cases hx : j - L1.length with
        | zero => rw [hx] at e1; simp at e1; subst e1; cases e2
        | succ m => rw [hx] at e1; simp at e1
    · rintro ⟨ob, e1, e2, e3⟩
      exact ⟨ob, by rw [hlt (List.getElem?_eq_some_iff.1 e1).1]; exact e1, e2, e3⟩
  have hav : ∀ b, avd C L1 σ b → avd C s.L σ b := by
    rintro b (hx | ⟨j, hj⟩)
    · exact .inl hx
    · exact .inr ⟨j, (hown j b).2 hj⟩
  have hRP : ∀ k ver i off u, k < L1.length → RP s.L σ k ver i off u → RP L1 σ k ver i off u := by
    rintro k ver i off u hk ⟨ob, e, r⟩
    exact ⟨ob, by rw [← hlt hk]; exact e, r⟩
  have hdat : ∀ {t : Ty} {d : t.den} {cs : List Value}, Dat (avd C s.L σ) w t d cs → Dat (avd C L1 σ) w t d cs := fun hd => hd.keep (Nat.le_refl _) (fun _ _ _ => rfl) (fun b _ hb => hav b hb)
  have hpat : ∀ t d off u, gk C s.L σ w t d off u → gk C L1 σ w t d off u := by
    rintro t d off u ⟨b, o, cs, e, h1, h2, h3, h4⟩
    exact ⟨b, o, cs, e, fun hx => h1 (hav b hx), h2, h3, hdat h4⟩
  have hfnn : ∀ f ds u, RFN C s.L σ w f ds u → RFN C L1 σ w f ds u := by
    rintro f ds u ⟨b, o, vs, e, h1, h2, h3, h4⟩
    exact ⟨b, o, vs, e, fun hx => h1 (hav b hx), h2, h3, h4.mono fun p u hp => ⟨hp.1, hpat _ _ _ _ hp.2⟩⟩
  have hC : ∀ (c : AC) (u : Value), cw L1.length c = true → RC C s.L σ w c u → RC C L1 σ w c u := by
    rintro c u hf ⟨h1, h2⟩
    refine ⟨h1, ?_⟩
    cases c with
    | row k v =>
      simp only [cw, decide_eq_true_eq] at hf
      obtain ⟨ob, e, r⟩ := h2
      exact ⟨ob, by rw [← hlt hf]; exact e, r⟩
    | ptr k v i off => simp only [cw, decide_eq_true_eq] at hf; exact hRP _ _ _ _ _ hf h2
    | mpv k =>
      simp only [cw, decide_eq_true_eq] at hf
      obtain ⟨ob, e, r⟩ := h2
      exact ⟨ob, by rw [← hlt hf]; exact e, r⟩
    | rwc k v =>
      simp only [cw, decide_eq_true_eq] at hf
      obtain ⟨ob, e, r⟩ := h2
      exact ⟨ob, by rw [← hlt hf]; exact e, r⟩
    | fn f caps =>
      obtain ⟨vs, e, ha⟩ := h2
      refine ⟨vs, e, ha.weaken fun c u hc hcu => ?_⟩
      have := List.all_eq_true.1 hf c hc
      cases c with
      | ref k => simp only [decide_eq_true_eq] at this; exact ⟨hcu.1, hRP _ _ _ _ _ this hcu.2⟩
      | pat t d => exact ⟨hcu.1, hpat _ _ _ _ hcu.2⟩
      | pfn f ds => exact ⟨hcu.1, hfnn _ _ _ hcu.2⟩
    | list t xs => exact hdat (t := .list t) h2
    | pat t d off => exact hpat _ _ _ _ h2
    | pfn f ds => exact hfnn _ _ _ h2
    | _ => exact h2
  have h1V : ∀ (v : AV) (u : Value), ro L1.length v = true → RV1 C s.L σ w v u → RV1 C L1 σ w v u := by
    intro v u hf h1
    cases v with
    | undef => trivial
    | void => exact h1
    | one c => exact hC c u hf h1
    | agg cs => obtain ⟨vs, e, ha⟩ := h1; exact ⟨vs, e, ha.weaken fun c u hc hcu => hC c u (List.all_eq_true.1 hf c hc) hcu⟩
    | tup _ => exact h1.elim
  have hV : ∀ (v : AV) (u : Value), mz L1.length v = true → RV C s.L σ w v u → RV C L1 σ w v u := by
    intro v u hf h1
    cases v with
    | tup vs => obtain ⟨us, e, ha⟩ := h1; exact ⟨us, e, ha.weaken fun c u hc hcu => h1V c u (List.all_eq_true.1 hf c hc) hcu⟩
    | undef => trivial
    | void => exact h1
    | one c => exact h1V (.one c) u hf h1
    | agg cs => exact h1V (.agg cs) u hf h1
  have hi := hr.inv
  refine h σ a w ⟨⟨fun o ob e => ?_, fun o o' b h1 h2 => hi.inj o o' b ((hown o b).2 h1) ((hown o' b).2 h2), fun o b h1 => hi.off o b ((hown o b).2 h1), hi.kept, hi.xlt, hi.size, hi.os, hi.tape, hi.output⟩, fun t => ?_, hr.size, hr.defers, fun c u hcu => ?_⟩
  · have hlo := (List.getElem?_eq_some_iff.1 e).1
    have h1 := hi.ob o ob (by rw [hlt hlo]; exact e)
    have hfo := List.all_eq_true.1 ho ob (List.mem_of_getElem? e)
    cases ob with
    | dead _ => trivial
    | vars T cs =>
      obtain ⟨b, vs, e1, e2, e3⟩ := h1
      exact ⟨b, vs, e1, e2, e3.weaken fun c u hc hcu => hC c u (List.all_eq_true.1 hfo c hc) hcu⟩
    | row t e v xs =>
      obtain ⟨flat, h2, h0, h3⟩ := h1
      exact ⟨flat, h2, h0, fun i hi => hdat (h3 i hi)⟩
    | mp T vk es => exact h1
    | itr s pos => exact h1
    | fact g x => exact h1
    | rowc e sz v cs =>
      obtain ⟨flat, n, h2, h0, hl0, h3⟩ := h1
      exact ⟨flat, n, h2, h0, hl0, h3.weaken fun c u hc hcu => hC c u (List.all_eq_true.1 hfo c hc) hcu⟩
  · refine hV _ _ ?_ (hr.env t)
    have : ∀ env : Env, env.all (fun x => mz L1.length x.2) = true → mz L1.length (lkp env t) = true := by
      intro env
      induction env with
      | nil => intro _; rfl
      | cons x env ih =>
        intro hx
        simp only [List.all_cons, Bool.and_eq_true] at hx
        simp only [lkp]
        split
        · exact hx.1
        · exact ih hx.2
    exact this _ he
  · exact hC c u (qt hB (vb hcu)) (hr.pres c u hcu)

end Go.AV
