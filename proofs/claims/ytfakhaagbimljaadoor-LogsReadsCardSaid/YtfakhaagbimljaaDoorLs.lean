/- Objects that change no more; objects lent to a callee. -/
import Derived.Test.YtfakhaagbimljaaDoorLr
set_option linter.unusedSimpArgs false
set_option linter.unusedVariables false
namespace Go.AV
open Go Go.RowKit

def shV (k : Nat) (t : Ty) (d : t.den) : AV → AV
  | .one (.ptr k' 0 0 off) => if k' = k then .one (.pat t d off) else .one (.ptr k' 0 0 off)
  | v => v

theorem mj (f : AV → AV) (hf : f .undef = .undef) (t : Nat) : ∀ env : Env, lkp (env.map fun x => (x.1, f x.2)) t = f (lkp env t)
  | [] => hf.symm
  | (n, v) :: env => by
    simp only [List.map_cons, lkp]
    by_cases e : t = n
    · simp only [e, if_true]
    · simp only [e, if_false]; exact mj f hf t env

theorem i9 {C : Ctx} {Q : Exit → St → Prop} {s : St} {c : Code} (k : Nat) (t : Ty) {T : TypeId} {cs : List AC} {d : t.den} (hk : s.L[k]? = some (.vars T cs)) (hd : aY t cs = some d)
    (h : AWP C c Q { env := s.env.map fun x => (x.1, shV k t d x.2), L := s.L.set k (.dead 0) }) : AWP C c Q s := by
  intro σ a w hr
  have hlt : k < s.L.length := (List.getElem?_eq_some_iff.1 hk).1
  have hI := cv (C := C) (L' := s.L.set k (.dead 0)) (σ' := σ) (w' := w) k hr.inv (Nat.le_refl _) rfl rfl rfl (fun _ _ _ => rfl) (fun j hj => by rw [List.getElem?_set_ne (Ne.symm hj)]) (fun _ _ => rfl)
    (fun ob e => by rw [hk] at e; cases e; exact ⟨.dead 0, by simp [hlt], Nat.le_refl _, fun h => by cases h⟩)
    (fun b ⟨ob, e1, e2, _⟩ => by simp [hlt] at e1; subst e1; cases e2)
    (fun _ _ ob e => by simp [hlt] at e; subst e; trivial)
  refine h σ a w ⟨hI.1, fun t' => ?_, hr.size, hr.defers, hr.pres.trans hI.2⟩
  show RV C _ σ w (lkp _ t') _
  rw [mj (shV k t d) rfl]
  have h1 := hr.env t'
  have h2 := hI.2.rv h1
  unfold shV
  split
  · rename_i k' off hv
    split
    · rename_i ek; subst ek
      rw [hv] at h1
      obtain ⟨h3, ob, h4, _, h6⟩ := h1
      rw [hk] at h4; cases h4
      obtain ⟨b, hb1, hb2⟩ := h6 rfl rfl
      obtain ⟨b', vs, e1, e2, e3⟩ := hr.inv.ob k' _ hk
      have eb : b' = b := by rw [e1] at hb1; simpa [blk] using hb1
      subst eb
      have hown : own s.L σ k' b' := ⟨_, hk, rfl, hb1⟩
      refine ⟨h3, b', 0, vs, by rw [hb2]; simp [AO.esize], ?_, (Array.getElem?_eq_some_iff.1 e2).1, fun j _ => by rw [Nat.zero_add, cT e2]; simp, ?_⟩
      · rintro (hx | ⟨j, ob, q1, q2, q3⟩)
        · exact (hr.inv.off k' b' hown).2 hx
        · by_cases ej : j = k'
          · subst ej; simp [hlt] at q1; subst q1; cases q2
          · rw [List.getElem?_set_ne (Ne.symm ej)] at q1
            exact ej (hr.inv.inj j k' b' ⟨ob, q1, q2, q3⟩ hown)
      · exact ef hd (e3.mono fun c u hc => hI.2 c u hc)
    · rw [hv] at h2; exact h2
  · exact h2

section
variable {C C' : Ctx} {L L' : List AO} {σ σ' : Sig} {w : World}
end

def mvC (m : Nat) : AC → AC
  | .ptr 0 v i off => .ptr m v i off
  | c => c
def mv1 (m : Nat) : AV → AV
  | .one c => .one (mvC m c)
  | v => v

def CLE (a b : AC) : Prop := ∀ C L σ w u, RC C L σ w a u → RC C L σ w b u
def uz (a b : AV) : Prop := ∀ C L σ w u, RV1 C L σ w a u → RV1 C L σ w b u
def VLE (a b : AV) : Prop := ∀ C L σ w u, RV C L σ w a u → RV C L σ w b u
theorem CLE.refl (a : AC) : CLE a a := fun _ _ _ _ _ h => h
theorem CLE.of_eq {a b : AC} (e : a = b) : CLE a b := e ▸ .refl a
theorem VLE.of_eq {a b : AV} (e : a = b) : VLE a b := e ▸ fun _ _ _ _ _ h => h
theorem br {t : Ty} {xs : List t.den} (h : xs = []) : CLE .nils (.list t xs) := fun C L σ w u hu => by
  subst h
  obtain ⟨h1, h2⟩ := hu
  have e : u = .slice none 0 0 := h2
  subst e
  exact ⟨rfl, db t⟩
theorem iv {a b : AC} (h : CLE a b) : VLE (.one a) (.one b) := fun C L σ w u hu => h C L σ w u hu
theorem aR.map2 {α β γ : Type} {r : α → β → Prop} {p : α → γ → Prop} {q : β → γ → Prop} (h : ∀ a b c, r a b → p a c → q b c) : ∀ {as : List α} {bs : List β} {cs : List γ}, aR r as bs → aR p as cs → aR q bs cs
  | [], [], [], _, _ => trivial
  | _ :: _, _ :: _, _ :: _, ⟨a1, a2⟩, ⟨b1, b2⟩ => ⟨h _ _ _ a1 b1, a2.map2 h b2⟩
  | [], _ :: _, _, hh, _ => hh.elim
  | _ :: _, [], _, hh, _ => hh.elim
  | [], [], _ :: _, _, hh => hh.elim
  | _ :: _, _ :: _, [], _, hh => hh.elim
theorem dD {as bs : List AC} (h : aR CLE as bs) : uz (.agg as) (.agg bs) := fun C L σ w u ⟨vs, e, ha⟩ => ⟨vs, e, h.map2 (fun a b c hab hac => hab C L σ w c hac) ha⟩
theorem oy {as bs : List AC} (h : aR CLE as bs) : VLE (.agg as) (.agg bs) := fun C L σ w u hu => dD h C L σ w u hu
theorem fd {as bs : List AV} (h : aR uz as bs) : VLE (.tup as) (.tup bs) := fun C L σ w u ⟨vs, e, ha⟩ => ⟨vs, e, h.map2 (fun a b c hab hac => hab C L σ w c hac) ha⟩

theorem aB {P : Program} {f : FuncId} {fn : Func} {c : Code} {args : List AV} {r : AV} (hf : P.funcs[f]? = some fn) (hb : fn.body = some c) (hname : (fn.name == "runtime.NumGoroutine") = false) (hn : args.length ≤ fn.ntmps) (hp : args.all fu = true)
    (h : ∀ C, C.P = P → C.N = fn.ntmps → C.bL = [] → AWP C c (pV P fn fun s' v => VLE (fzV s'.L v) r) { env := aJ 0 args, L := [] }) : aW P f args r := by
  refine ⟨⟨fn, hf, hname, by rw [hb]; rfl⟩, fun C L σ w vs hP hI ha => ?_⟩
  refine (hM hf hb hn hp h hI ha).mono fun e w' hh => ?_
  obtain ⟨s', σ', v, u, rfl, hR, h1, h2⟩ := hh
  refine ⟨u, rfl, gp h1, hR _ _ _ _ _ ?_⟩
  exact nS (fun b _ hb => .inl hb) (rk v) (su (σ' := σ') h1 h2)

def Fit : (t : Ty) → t.den → Prop
  | .list t, xs => List.length xs ≤ 9223372036854775807 ∧ ∀ i, i < List.length xs → Fit t (List.getD xs i t.dflt)
  | .pair a b, (x, y) => Fit a x ∧ Fit b y
  | _, _ => True
def eJ : AC → Prop
  | .list t xs => Fit (.list t) xs
  | .pat t d _ => Fit t d
  | _ => True
def eI : List AC → Prop
  | [] => True
  | c :: r => eJ c ∧ eI r
def ff : AV → Prop
  | .one c => eJ c
  | .agg cs => eI cs
  | _ => True
theorem Dat.fit {av : Nat → Prop} {w : World} : ∀ {t : Ty} {d : t.den} {cs : List Value}, Dat av w t d cs → Fit t d
  | .int _, _, _, _ => trivial
  | .bool, _, _, _ => trivial
  | .str, _, _, _ => trivial
  | .unit, _, _, _ => trivial
  | .pair a b, (x, y), cs, h => by
    simp only [Dat] at h
    obtain ⟨c1, c2, _, h1, h2⟩ := h
    exact ⟨h1.fit, h2.fit⟩
  | .list t, xs, cs, h => by
    simp only [Dat] at h
    obtain ⟨A, c, _, hc, hm, hr⟩ := h
    refine ⟨?_, fun i hi => ?_⟩
    · have := hm.1; simp only [maxLen] at this; omega
    · obtain ⟨b, o, _, _, _, hi'⟩ := hr (by omega)
      obtain ⟨cs', _, _, hd⟩ := hi' i hi
      exact hd.fit
theorem RC.fit {C : Ctx} {L : List AO} {σ : Sig} {w : World} {c : AC} {u : Value} (h : RC C L σ w c u) : eJ c := by
  cases c with
  | list t xs => exact Dat.fit (t := .list t) h.2
  | pat t d off => obtain ⟨_, b, o, cs, _, _, _, _, hd⟩ := h; exact hd.fit
  | _ => trivial
theorem RV.fit {C : Ctx} {L : List AO} {σ : Sig} {w : World} {v : AV} {u : Value} (h : RV C L σ w v u) : ff v := by
  cases v with
  | one c => exact RC.fit h
  | agg cs =>
    obtain ⟨vs, _, ha⟩ := h
    have : ∀ (cs : List AC) (vs : List Value), aR (fun c u => RC C L σ w c u) cs vs → eI cs := by
      intro cs
      induction cs with
      | nil => intro _ _; trivial
      | cons c cs ih =>
        intro vs h
        cases vs with
        | nil => exact h.elim
        | cons v vs => exact ⟨h.1.fit, ih vs h.2⟩
    exact this cs vs ha
  | _ => trivial
theorem cW {C : Ctx} {Q : Exit → St → Prop} {s : St} {c : Code} (k : Nat) {v : AV} (hk : lkp s.env k = v) (h : ff v → AWP C c Q s) : AWP C c Q s := fun σ a w hr => by
  have h1 := hr.env k
  rw [hk] at h1
  exact h h1.fit σ a w hr

def bu (n : Nat) : AC → Bool
  | .row k _ => decide (k < n)
  | .ptr k _ _ _ => decide (k < n)
  | .mpv k => decide (k < n)
  | .rwc k _ => decide (k < n)
  | .fn _ caps => caps.all fun
    | .ref k => decide (k < n)
    | .pat _ _ => true
    | .pfn _ _ => true
  | _ => true
def l8 (n : Nat) : AV → Bool
  | .one c => bu n c
  | .agg cs => cs.all (bu n)
  | _ => true
def fm (n : Nat) : AV → Bool
  | .tup vs => vs.all (l8 n)
  | v => l8 n v
def pA (n : Nat) : AO → Bool
  | .vars _ cs => cs.all (bu n)
  | .rowc _ _ _ cs => cs.all (bu n)
  | _ => true
theorem o9 {n m : Nat} (h : n ≤ m) {c : AC} (hc : bu n c = true) : bu m c = true := by
  cases c with
  | row k v => simp only [bu, decide_eq_true_eq] at *; omega
  | ptr k v i o => simp only [bu, decide_eq_true_eq] at *; omega
  | mpv k => simp only [bu, decide_eq_true_eq] at *; omega
  | rwc k v => simp only [bu, decide_eq_true_eq] at *; omega
  | fn f caps =>
    simp only [bu] at *
    refine List.all_eq_true.2 fun c hc' => ?_
    have := List.all_eq_true.1 hc c hc'
    cases c with
    | ref k => simp only [decide_eq_true_eq] at *; omega
    | pat _ _ => rfl
    | pfn _ _ => rfl
  | _ => rfl
theorem iX {C : Ctx} {L : List AO} {σ : Sig} {w : World} {c : AC} {u : Value} (h : RC C L σ w c u) : bu L.length c = true := by
  cases c with
  | row k v => obtain ⟨_, ob, e, _⟩ := h; simp only [bu, decide_eq_true_eq]; exact (List.getElem?_eq_some_iff.1 e).1
  | ptr k v i o => obtain ⟨_, ob, e, _⟩ := h; simp only [bu, decide_eq_true_eq]; exact (List.getElem?_eq_some_iff.1 e).1
  | mpv k => obtain ⟨_, ob, e, _⟩ := h; simp only [bu, decide_eq_true_eq]; exact (List.getElem?_eq_some_iff.1 e).1
  | rwc k v => obtain ⟨_, ob, e, _⟩ := h; simp only [bu, decide_eq_true_eq]; exact (List.getElem?_eq_some_iff.1 e).1
  | fn f caps =>
    obtain ⟨_, vs, _, ha⟩ := h
    refine List.all_eq_true.2 fun c hc => ?_
    obtain ⟨i, hi⟩ := List.getElem?_of_mem hc
    obtain ⟨u, _, hu⟩ := ha.at_ hi
    cases c with
    | ref k => obtain ⟨_, ob, e, _⟩ := hu; simp only [decide_eq_true_eq]; exact (List.getElem?_eq_some_iff.1 e).1
    | pat _ _ => rfl
    | pfn _ _ => rfl
  | _ => rfl

theorem ry {C : Ctx} {Q : Exit → St → Prop} {s : St} {c : Code} {L1 : List AO} {ver n : Nat} (hL : s.L = L1 ++ [.dead ver]) (hn : L1.length = n) (hB : C.bL.length ≤ n) (he : s.env.all (fun x => fm n x.2) = true) (ho : L1.all (pA n) = true)
    (h : AWP C c Q { env := s.env, L := L1 }) : AWP C c Q s := by
  intro σ a w hr
  subst hn
  have hlt : ∀ {k : Nat}, k < L1.length → s.L[k]? = L1[k]? := fun hk => by rw [hL, List.getElem?_append_left hk]
  have hown : ∀ j b, own s.L σ j b ↔ own L1 σ j b := by
    intro j b
    constructor
    · rintro ⟨ob, e1, e2, e3⟩
      rcases Nat.lt_or_ge j L1.length with hj | hj
      · exact ⟨ob, by rw [← hlt hj]; exact e1, e2, e3⟩
      · rw [hL, List.getElem?_append_right hj] at e1
        cases hx : j - L1.length with
        | zero => rw [hx] at e1; simp at e1; subst e1; cases e2
        | succ m => rw [hx] at e1; simp at e1
    · rintro ⟨ob, e1, e2, e3⟩
      exact ⟨ob, by rw [hlt (List.getElem?_eq_some_iff.1 e1).1]; exact e1, e2, e3⟩
  have hav : ∀ b, avd C L1 σ b → avd C s.L σ b := by
    rintro b (hx | ⟨j, hj⟩)
    · exact .inl hx
    · exact .inr ⟨j, (hown j b).2 hj⟩
  have hRP : ∀ k ver i off u, k < L1.length → RP s.L σ k ver i off u → RP L1 σ k ver i off u := by
    rintro k ver i off u hk ⟨ob, e, r⟩
    exact ⟨ob, by rw [← hlt hk]; exact e, r⟩
  have hdat : ∀ {t : Ty} {d : t.den} {cs : List Value}, Dat (avd C s.L σ) w t d cs → Dat (avd C L1 σ) w t d cs := fun hd => hd.keep (Nat.le_refl _) (fun _ _ _ => rfl) (fun b _ hb => hav b hb)
  have hpat : ∀ t d off u, fc C s.L σ w t d off u → fc C L1 σ w t d off u := by
    rintro t d off u ⟨b, o, cs, e, h1, h2, h3, h4⟩
    exact ⟨b, o, cs, e, fun hx => h1 (hav b hx), h2, h3, hdat h4⟩
  have hfnn : ∀ f ds u, RFN C s.L σ w f ds u → RFN C L1 σ w f ds u := by
    rintro f ds u ⟨b, o, vs, e, h1, h2, h3, h4⟩
    exact ⟨b, o, vs, e, fun hx => h1 (hav b hx), h2, h3, h4.mono fun p u hp => ⟨hp.1, hpat _ _ _ _ hp.2⟩⟩
  have hC : ∀ (c : AC) (u : Value), bu L1.length c = true → RC C s.L σ w c u → RC C L1 σ w c u := by
    rintro c u hf ⟨h1, h2⟩
    refine ⟨h1, ?_⟩
    cases c with
    | row k v =>
      simp only [bu, decide_eq_true_eq] at hf
      obtain ⟨ob, e, r⟩ := h2
      exact ⟨ob, by rw [← hlt hf]; exact e, r⟩
    | ptr k v i off => simp only [bu, decide_eq_true_eq] at hf; exact hRP _ _ _ _ _ hf h2
    | mpv k =>
      simp only [bu, decide_eq_true_eq] at hf
      obtain ⟨ob, e, r⟩ := h2
      exact ⟨ob, by rw [← hlt hf]; exact e, r⟩
    | rwc k v =>
      simp only [bu, decide_eq_true_eq] at hf
      obtain ⟨ob, e, r⟩ := h2
      exact ⟨ob, by rw [← hlt hf]; exact e, r⟩
    | fn f caps =>
      obtain ⟨vs, e, ha⟩ := h2
      refine ⟨vs, e, ha.weaken fun c u hc hcu => ?_⟩
      have := List.all_eq_true.1 hf c hc
      cases c with
      | ref k => simp only [decide_eq_true_eq] at this; exact ⟨hcu.1, hRP _ _ _ _ _ this hcu.2⟩
      | pat t d => exact ⟨hcu.1, hpat _ _ _ _ hcu.2⟩
      | pfn f ds => exact ⟨hcu.1, hfnn _ _ _ hcu.2⟩
    | list t xs => exact hdat (t := .list t) h2
    | pat t d off => exact hpat _ _ _ _ h2
    | pfn f ds => exact hfnn _ _ _ h2
    | _ => exact h2
  have h1V : ∀ (v : AV) (u : Value), l8 L1.length v = true → RV1 C s.L σ w v u → RV1 C L1 σ w v u := by
    intro v u hf h1
    cases v with
    | undef => trivial
    | void => exact h1
    | one c => exact hC c u hf h1
    | agg cs => obtain ⟨vs, e, ha⟩ := h1; exact ⟨vs, e, ha.weaken fun c u hc hcu => hC c u (List.all_eq_true.1 hf c hc) hcu⟩
    | tup _ => exact h1.elim
  have hV : ∀ (v : AV) (u : Value), fm L1.length v = true → RV C s.L σ w v u → RV C L1 σ w v u := by
    intro v u hf h1
    cases v with
    | tup vs => obtain ⟨us, e, ha⟩ := h1; exact ⟨us, e, ha.weaken fun c u hc hcu => h1V c u (List.all_eq_true.1 hf c hc) hcu⟩
    | undef => trivial
    | void => exact h1
    | one c => exact h1V (.one c) u hf h1
    | agg cs => exact h1V (.agg cs) u hf h1
  have hi := hr.inv
  refine h σ a w ⟨⟨fun o ob e => ?_, fun o o' b h1 h2 => hi.inj o o' b ((hown o b).2 h1) ((hown o' b).2 h2), fun o b h1 => hi.off o b ((hown o b).2 h1), hi.kept, hi.xlt, hi.size, hi.os, hi.tape, hi.output⟩, fun t => ?_, hr.size, hr.defers, fun c u hcu => ?_⟩
  · have hlo := (List.getElem?_eq_some_iff.1 e).1
    have h1 := hi.ob o ob (by rw [hlt hlo]; exact e)
    have hfo := List.all_eq_true.1 ho ob (List.mem_of_getElem? e)
    cases ob with
    | dead _ => trivial
    | vars T cs =>
      obtain ⟨b, vs, e1, e2, e3⟩ := h1
      exact ⟨b, vs, e1, e2, e3.weaken fun c u hc hcu => hC c u (List.all_eq_true.1 hfo c hc) hcu⟩
    | row t e v xs =>
      obtain ⟨flat, h2, h0, h3⟩ := h1
      exact ⟨flat, h2, h0, fun i hi => hdat (h3 i hi)⟩
    | mp T vk es => exact h1
    | itr s pos => exact h1
    | fact g x => exact ⟨h1.1, fun hx => h1.2 (hx.elim .inl fun ⟨o, q⟩ => .inr ⟨o, (hown o g).2 q⟩)⟩
    | rowc e sz v cs =>
      obtain ⟨flat, n, h2, h0, hl0, h3⟩ := h1
      exact ⟨flat, n, h2, h0, hl0, h3.weaken fun c u hc hcu => hC c u (List.all_eq_true.1 hfo c hc) hcu⟩
  · refine hV _ _ ?_ (hr.env t)
    have : ∀ env : Env, env.all (fun x => fm L1.length x.2) = true → fm L1.length (lkp env t) = true := by
      intro env
      induction env with
      | nil => intro _; rfl
      | cons x env ih =>
        intro hx
        simp only [List.all_cons, Bool.and_eq_true] at hx
        simp only [lkp]
        split
        · exact hx.1
        · exact ih hx.2
    exact this _ he
  · exact hC c u (o9 hB (iX hcu)) (hr.pres c u hcu)

theorem eT {C : Ctx} {Q : Exit → St → Prop} {s : St} {c : Code} (k j : Nat) (t : Ty) (e : TypeId) {T : TypeId} {cs : List AC} (ht : 0 < t.size) (hk : s.L[k]? = some (.vars T cs)) (hj : cs[j]? = some .nils)
    (h : AWP C c Q { env := s.env, L := s.L.set k (.vars T (cs.set j (.row s.L.length 0))) ++ [.row t e 0 []] }) : AWP C c Q s := by
  intro σ a w hr
  have hlt : k < s.L.length := (List.getElem?_eq_some_iff.1 hk).1
  have hg : ∀ ob', s.L[s.L.length]? = some ob' → False := fun ob' e => by rw [List.getElem?_eq_none (Nat.le_refl _)] at e; cases e
  have hlast : (s.L ++ [AO.row t e 0 []])[s.L.length]? = some (.row t e 0 []) := by simp
  have t1 := cv (C := C) (L' := s.L ++ [.row t e 0 []]) (σ' := sup σ s.L.length (.slice none 0 0)) (w' := w) s.L.length hr.inv (Nat.le_refl _) rfl rfl rfl (fun _ _ _ => rfl)
    (fun k hk => by
      rcases Nat.lt_or_ge k s.L.length with hl | hl
      · rw [List.getElem?_append_left hl]
      · rw [List.getElem?_eq_none (by simp; omega), List.getElem?_eq_none hl])
    (fun k hk => bS σ _ hk) (fun ob' e => (hg ob' e).elim)
    (fun b ⟨ob', e1, e2, e3⟩ => by rw [aG] at e3; cases e3)
    (fun hp _ ob' e' => by rw [hlast] at e'; cases e'; exact ⟨[], ⟨by simp, .inl ⟨by rw [aG], rfl⟩⟩, ht, fun i hi => by cases hi⟩)
  generalize hL1 : s.L ++ [AO.row t e 0 []] = L1 at *
  generalize hs1 : sup σ s.L.length (.slice none 0 0) = σ1 at *
  have hk' : L1[k]? = some (.vars T cs) := by rw [← hL1, List.getElem?_append_left hlt]; exact hk
  have hlt' : k < L1.length := (List.getElem?_eq_some_iff.1 hk').1
  have hσ : σ1 s.L.length = .slice none 0 0 := by rw [← hs1, aG]
  have t2 := cv (C := C) (L' := L1.set k (.vars T (cs.set j (.row s.L.length 0)))) (σ' := σ1) (w' := w) k t1.1 (Nat.le_refl _) rfl rfl rfl (fun _ _ _ => rfl)
    (fun i hi => by rw [List.getElem?_set_ne (Ne.symm hi)]) (fun _ _ => rfl)
    (fun ob e' => by rw [hk'] at e'; cases e'; exact ⟨.vars T (cs.set j (.row s.L.length 0)), by simp [hlt'], Nat.le_refl _, fun _ _ => ⟨rfl, rfl, rfl, trivial⟩⟩)
    (fun b ⟨ob, e1, e2, e3⟩ => .inl ⟨_, hk', rfl, e3⟩)
    (fun hp _ ob e' => by
      simp [hlt'] at e'
      subst e'
      obtain ⟨b, vs, e1, e2, e3⟩ := t1.1.ob k _ hk'
      refine ⟨b, vs, e1, e2, ?_⟩
      obtain ⟨u, hu, hcu⟩ := e3.at_ hj
      have hvs : vs.set j u = vs := by
        apply List.ext_getElem?
        intro i
        rw [List.getElem?_set]
        split
        · rename_i e; subst e; split
          · exact hu.symm
          · rename_i hh; exact absurd (List.getElem?_eq_some_iff.1 hu).1 hh
        · rfl
      rw [← hvs]
      have hnew : RC C L1 σ1 w (.row s.L.length 0) u := ⟨hcu.1, _, hlast, Nat.le_refl _, fun _ _ => ⟨⟨_, _, _, rfl⟩, by rw [hσ]; exact hcu.2⟩⟩
      exact (e3.mono fun c v hcv => hp c v hcv).set j (hp _ _ hnew))
  refine h σ1 a w ⟨?_, fun t' => ?_, hr.size, hr.defers, ?_⟩
  all_goals (have hset : s.L.set k (.vars T (cs.set j (.row s.L.length 0))) ++ [AO.row t e 0 []] = L1.set k (.vars T (cs.set j (.row s.L.length 0))) := by rw [← hL1, List.set_append, if_pos hlt])
  · show INV C (s.L.set k (.vars T (cs.set j (.row s.L.length 0))) ++ [AO.row t e 0 []]) σ1 w
    rw [hset]; exact t2.1
  · show RV C (s.L.set k (.vars T (cs.set j (.row s.L.length 0))) ++ [AO.row t e 0 []]) σ1 w _ _
    rw [hset]; exact t2.2.rv (t1.2.rv (hr.env t'))
  · show cC C C.bL C.bσ C.bw (s.L.set k (.vars T (cs.set j (.row s.L.length 0))) ++ [AO.row t e 0 []]) σ1 w
    rw [hset]; exact (hr.pres.trans t1.2).trans t2.2
theorem pG {P : Program} {f : FuncId} {args : List AV} {r r' : AV} (h : aW P f args r) (hv : VLE r r') : aW P f args r' :=
  ⟨h.1, fun C L σ w vs hP hI ha => (h.2 C L σ w vs hP hI ha).mono fun e w' ⟨v, e1, hm, hr⟩ => ⟨v, e1, hm, hv _ _ _ _ _ hr⟩⟩
theorem nY {P : Program} {f : FuncId} {t : Ty} {xs : List t.den} {r : AV} (h0 : xs = [] → aW P f [.one .nils] r) (h1 : xs = [] → aW P f [.one .emp] r) (h2 : 0 < xs.length → aW P f [.one (.list t xs)] r) (hc : gR P f) : aW P f [.one (.list t xs)] r := by
  refine ⟨hc, fun C L σ w vs hP hI ha => ?_⟩
  obtain ⟨u, rfl, hu⟩ := ha.one
  rcases kV hu with ⟨e, h⟩ | ⟨e, h⟩ | h
  · exact (h0 e).2 C L σ w _ hP hI ⟨h, trivial⟩
  · exact (h1 e).2 C L σ w _ hP hI ⟨h, trivial⟩
  · exact (h2 h).2 C L σ w _ hP hI ⟨hu, trivial⟩

end Go.AV
