/- Objects that change no more; objects lent to a callee. -/
import Derived.Test.YtoahhklogohehaaLr
set_option linter.unusedSimpArgs false
set_option linter.unusedVariables false
namespace Go.AV
open Go Go.RowKit

section
variable {C C' : Ctx} {L L' : List AO} {σ σ' : Sig} {w : World}
theorem oL (hI : INV C L σ w) (hav : ∀ b, avd C' L' σ' b → C.X b ∨ ∃ o T cs, L[o]? = some (.vars T cs) ∧ own L σ o b) {c : AC} {u : Value} (h : RC C L σ w c u) : RC C' L' σ' w (fzC L c) u := by
  have ha : ∀ b, b < w.heap.size → avd C' L' σ' b → avd C L σ b := by
    intro b _ hb
    rcases hav b hb with hx | ⟨o, _, _, _, ho⟩
    · exact .inl hx
    · exact .inr ⟨o, ho⟩
  obtain ⟨h1, h2⟩ := h
  cases c with
  | row k ver =>
    simp only [fzC]
    obtain ⟨ob, h3, h4, h5⟩ := h2
    rw [h3]
    cases ob with
    | dead _ => exact ⟨h1, trivial⟩
    | vars _ _ => exact ⟨h1, trivial⟩
    | mp _ _ _ => exact ⟨h1, trivial⟩
    | rowc _ _ _ _ => exact ⟨h1, trivial⟩
    | itr _ _ => exact ⟨h1, trivial⟩
    | row t e v xs =>
      simp only
      split
      · rename_i hv; subst hv
        obtain ⟨_, h6⟩ := h5 rfl rfl
        refine ⟨h1, ?_⟩
        show Dat _ w (.list t) xs [u]
        rw [h6]
        obtain ⟨flat, h8, h9, h10⟩ := hI.ob k _ h3
        rcases h8.2 with ⟨e1, e2⟩ | ⟨g, cap, cur, e1, _, e3, e4, e5, e6, e7⟩
        · rw [e1]
          have : xs = [] := List.eq_nil_of_length_eq_zero e2
          subst this
          exact fG t
        · rw [e1]
          have hg : own L σ k g := ⟨_, h3, rfl, by rw [e1]; rfl⟩
          refine ⟨some ⟨g, 0, none⟩, cap, rfl, e4, ⟨e5, fun h => by cases h⟩, fun _ => ⟨g, 0, rfl, ?_, (Array.getElem?_eq_some_iff.1 e3).1, fun i hi => ⟨_, (h10 i hi).length, fun j hj => ?_, (h10 i hi).keep (Nat.le_refl _) (fun _ _ _ => rfl) ha⟩⟩⟩
          · intro hb
            rcases hav g hb with hx | ⟨o, T, cs, hv, ho⟩
            · exact (hI.off k g hg).2 hx
            · have := hI.inj _ _ g ho hg
              subst this
              rw [h3] at hv; cases hv
          · have hm : (i + 1) * t.size ≤ xs.length * t.size := Nat.mul_le_mul_right _ hi
            rw [Nat.add_mul, Nat.one_mul] at hm
            rw [eR e3, List.getElem?_take_of_lt hj, List.getElem?_drop, ← e7, List.getElem?_take_of_lt (by omega)]
            simp
      · exact ⟨h1, trivial⟩
  | ptr _ _ _ _ => exact ⟨h1, trivial⟩
  | mpv _ => exact ⟨h1, trivial⟩
  | rwc _ _ => exact ⟨h1, trivial⟩
  | fn f caps =>
    simp only [fzC]
    split
    · rename_i hp
      exact eG (c := .fn f caps) ha hp ⟨h1, h2⟩
    · exact ⟨h1, trivial⟩
  | emp => exact ⟨h1, h2⟩
  | exact _ => exact ⟨h1, h2⟩
  | junk => exact ⟨h1, trivial⟩
  | int _ _ => exact ⟨h1, h2⟩
  | bool _ => exact ⟨h1, h2⟩
  | str _ => exact ⟨h1, h2⟩
  | nils => exact ⟨h1, h2⟩
  | nilp => exact ⟨h1, h2⟩
  | list t xs => exact eG (c := .list t xs) ha rfl ⟨h1, h2⟩
  | pat t d off => exact eG (c := .pat t d off) ha rfl ⟨h1, h2⟩
  | pfn f ds => exact eG (c := .pfn f ds) ha rfl ⟨h1, h2⟩
theorem pJ (hI : INV C L σ w) (hav : ∀ b, avd C' L' σ' b → C.X b ∨ ∃ o T cs, L[o]? = some (.vars T cs) ∧ own L σ o b) {v : AV} {u : Value} (h : RV1 C L σ w v u) : RV1 C' L' σ' w (fz1 L v) u := by
  cases v with
  | undef => trivial
  | void => exact h
  | tup _ => exact h.elim
  | one c => exact oL hI hav h
  | agg cs => obtain ⟨vs, e, hall⟩ := h; exact ⟨vs, e, hall.mapL fun c u hc => oL hI hav hc⟩
theorem xg (hI : INV C L σ w) (hav : ∀ b, avd C' L' σ' b → C.X b ∨ ∃ o T cs, L[o]? = some (.vars T cs) ∧ own L σ o b) {v : AV} {u : Value} (h : RV C L σ w v u) : RV C' L' σ' w (fzV L v) u := by
  cases v with
  | tup vs => obtain ⟨us, e, hall⟩ := h; exact ⟨us, e, hall.mapL fun c u hc => pJ hI hav hc⟩
  | undef => trivial
  | void => exact h
  | one c => exact pJ (v := .one c) hI hav h
  | agg cs => exact pJ (v := .agg cs) hI hav h

end

def mvC (m : Nat) : AC → AC
  | .ptr 0 v i off => .ptr m v i off
  | c => c
def mv1 (m : Nat) : AV → AV
  | .one c => .one (mvC m c)
  | v => v

def io : AC → Bool
  | .ptr 0 0 0 _ => true
  | c => f0 c
def gp : AV → Bool
  | .one c => io c
  | v => ju v

def zj (T : TypeId) (cs' : List AC) (r : AV) (s' : St) (v : AV) : Prop :=
  ∃ cs1 rest, s'.L = .vars T cs1 :: rest ∧ cs1.map (fzC s'.L) = cs' ∧ fzV s'.L v = r

theorem pb {P : Program} {f : FuncId} {fn : Func} {c : Code} {args : List AV} {T : TypeId} {cs cs' : List AC} {r : AV} (hf : P.funcs[f]? = some fn) (hb : fn.body = some c) (hname : (fn.name == "runtime.NumGoroutine") = false) (hn : args.length ≤ fn.ntmps)
    (hp : args.all gp = true) (hcs : cs.all f0 = true)
    (h : ∀ C, C.P = P → C.N = fn.ntmps → C.bL = [.vars T cs] → AWP C c (vB P fn (zj T cs' r)) { env := bc 0 args, L := [.vars T cs] })
    (L0 : List AO) (m : Nat) (hm : L0[m]? = some (.vars T cs)) : ez P L0 f (args.map (mv1 m)) { av := r, upd := [(m, .vars T cs')], fp := [m] } := by
  refine ⟨⟨fn, hf, hname, by rw [hb]; rfl⟩, fun C L σ w vs hP hI ha hfp hlen => ?_⟩
  have hm' : L[m]? = some (.vars T cs) := by rw [hfp m (by simp)]; exact hm
  obtain ⟨b0, us, e1, e2, e3⟩ := hI.ob m _ hm'
  have hown : own L σ m b0 := ⟨_, hm', rfl, by rw [e1]; rfl⟩
  let C2 : Ctx := { P := P, X := fun b => C.X b ∨ ∃ o, o ≠ m ∧ own L σ o b, keep := fun b => b < w.heap.size ∧ b ≠ b0, w0 := w, N := fn.ntmps, bL := [.vars T cs], bσ := fun _ => σ m, bw := w }
  let σ2 : Sig := fun _ => σ m
  have hav : ∀ b, avd C2 [.vars T cs] σ2 b ↔ avd C L σ b := by
    intro b
    constructor
    · rintro ((hx | ⟨o, ho, hb⟩) | ⟨o, ob, q1, q2, q3⟩)
      · exact .inl hx
      · exact .inr ⟨o, hb⟩
      · cases o with
        | zero => simp at q1; subst q1; exact .inr ⟨m, _, hm', q2, q3⟩
        | succ o => simp at q1
    · rintro (hx | ⟨o, hb⟩)
      · exact .inl (.inl hx)
      · by_cases eo : o = m
        · subst eo
          obtain ⟨ob, q1, q2, q3⟩ := hb
          rw [hm'] at q1; cases q1
          exact .inr ⟨0, _, by simp; rfl, rfl, q3⟩
        · exact .inl (.inr ⟨o, eo, hb⟩)
  have hpure : ∀ {c : AC} {u : Value}, f0 c = true → RC C L σ w c u → RC C2 [.vars T cs] σ2 w c u := fun hp h => eG (fun b _ hb => (hav b).1 hb) hp h
  have hI2 : INV C2 [.vars T cs] σ2 w := by
    refine ⟨fun o ob e => ?_, fun o o' b ⟨ob, q1, _⟩ ⟨ob', q2, _⟩ => ?_, fun o b ⟨ob, q1, q2, q3⟩ => ?_, fun b hb => ⟨hb.1, rfl⟩, fun b hb => ?_, Nat.le_refl _, rfl, rfl, rfl⟩
    · cases o with
      | zero =>
        simp at e; subst e
        exact ⟨b0, us, e1, e2, e3.weaken fun c u hc hcu => hpure (List.all_eq_true.1 hcs c hc) hcu⟩
      | succ o => simp at e
    · cases o with
      | zero => cases o' with
        | zero => rfl
        | succ o' => simp at q2
      | succ o => simp at q1
    · have eb : b0 = b := by
        have : σ2 o = σ m := rfl
        rw [this, e1] at q3; simpa [blk] using q3
      subst eb
      refine ⟨fun hk => hk.2 rfl, ?_⟩
      rintro (hx | ⟨o', ho', hb'⟩)
      · exact (hI.off m b0 hown).2 hx
      · exact ho' (hI.inj o' m b0 hb' hown)
    · rcases hb with hx | ⟨o, _, hb⟩
      · exact Nat.lt_of_lt_of_le (hI.xlt b hx) hI.size
      · exact ge hI hb
  have hargs : bn (RV C2 [.vars T cs] σ2 w) args vs := by
    have : ∀ (as : List AV) (us : List Value), (∀ a, a ∈ as → gp a = true) → bn (RV C L σ w) (as.map (mv1 m)) us → bn (RV C2 [.vars T cs] σ2 w) as us := by
      intro as
      induction as with
      | nil => intro us _ hh; cases us with | nil => trivial | cons _ _ => exact hh.elim
      | cons a as ih =>
        intro us hm1 hh
        cases us with
        | nil => exact hh.elim
        | cons u us =>
          refine ⟨?_, ih us (fun b hb => hm1 b (List.mem_cons_of_mem _ hb)) hh.2⟩
          have hl := hm1 a (List.mem_cons_self ..)
          have h1 := hh.1
          cases a with
          | one c =>
            by_cases hpc : f0 c = true
            · have : mvC m c = c := by cases c <;> first | rfl | cases hpc
              have h1 : RC C L σ w (mvC m c) u := h1
              rw [this] at h1
              exact hpure hpc h1
            · cases c with
              | ptr k v i off =>
                have hz : k = 0 ∧ v = 0 ∧ i = 0 := by
                  simp only [gp, io] at hl
                  split at hl
                  · rename_i e; cases e; exact ⟨rfl, rfl, rfl⟩
                  · cases hl
                obtain ⟨rfl, rfl, rfl⟩ := hz
                obtain ⟨q0, ob, q1, q2, q3⟩ := (h1 : RC C L σ w (.ptr m 0 0 off) u)
                rw [hm'] at q1; cases q1
                exact ⟨q0, .vars T cs, rfl, Nat.le_refl _, fun _ _ => q3 rfl rfl⟩
              | row _ _ => simp [gp, io, f0] at hl
              | mpv _ => simp [gp, io, f0] at hl
              | rwc _ _ => simp [gp, io, f0] at hl
              | fn f caps =>
                simp only [gp, io] at hl
                exact absurd hl hpc
              | _ => exact absurd rfl hpc
          | undef => trivial
          | void => exact h1
          | agg cs0 => exact gT (fun b _ hb => (hav b).1 hb) hl h1
          | tup vs0 => exact gT (fun b _ hb => (hav b).1 hb) hl h1
    exact this args vs (fun a ha => List.all_eq_true.1 hp a ha) ha
  have hl := hargs.length
  refine (calls_of_wp hf hb (P := P) (R := fun e w' => ∃ s' σ' v u, e = .returned u ∧ zj T cs' r s' v ∧ INV C2 s'.L σ' w' ∧ RV C2 s'.L σ' w' v u ∧ dL C2 [.vars T cs] σ2 w s'.L σ' w')
    (wp_mono (h C2 rfl rfl rfl σ2 _ w ⟨hI2, fun t => ?_, by simp [C2]; omega, rfl, dL.refl _ _ _ _⟩) fun e a' w' ⟨s', σ', h1, h2⟩ => ?_)).mono fun e w' hh => ?_
  · rw [iG, if_pos (Nat.zero_le _), Nat.sub_zero]
    cases ht : args[t]? with
    | none => trivial
    | some a =>
      obtain ⟨u, hu, hru⟩ := hargs.at_ ht
      have : (vs.toArray ++ Array.replicate (fn.ntmps - vs.toArray.size) undef).getD t undef = u := by
        have htl : t < vs.length := (List.getElem?_eq_some_iff.1 hu).1
        simp only [Array.getD_eq_getD_getElem?]
        rw [Array.getElem?_append_left (by simpa using htl)]
        simp [hu]
      rw [this]
      exact hru
  · obtain ⟨he, v, hv, hR⟩ := h1
    obtain ⟨u, hu, hru⟩ := kw h2 hv
    have hfin : a'.defers = [] ∧ ∃ v, (results fn a'.tmps).run P w' = .ok v w' ∧ ∃ s' σ' v' u, Ending.returned v = .returned u ∧ zj T cs' r s' v' ∧ INV C2 s'.L σ' w' ∧ RV C2 s'.L σ' w' v' u ∧ dL C2 [.vars T cs] σ2 w s'.L σ' w' :=
      ⟨h2.defers, u, hu, s', σ', v, u, rfl, hR, h2.inv, hru, h2.pres⟩
    rcases he with rfl | rfl
    · exact hfin
    · exact hfin
  · obtain ⟨s', σ', v, u, rfl, ⟨cs1, rest, hL, hcs1, hr⟩, h1, h2, h3⟩ := hh
    refine ⟨u, rfl, ?_⟩
    have hlt : m < L.length := (List.getElem?_eq_some_iff.1 hm').1
    have hL0 : s'.L[0]? = some (.vars T cs1) := by rw [hL]; rfl
    obtain ⟨b1, us1, f1, f2, f3⟩ := h1.ob 0 _ hL0
    -- the object lies where it lay
    have hpt : RC C2 s'.L σ' w' (.ptr 0 0 0 0) (.pointer (some ⟨b0, 0, none⟩)) := h3 _ _ ⟨rfl, _, by simp; rfl, Nat.le_refl _, fun _ _ => ⟨b0, by show blk (σ m) = _; rw [e1]; rfl, by simp [AO.esize]⟩⟩
    obtain ⟨_, ob, q1, q2, q3⟩ := hpt
    rw [hL0] at q1; cases q1
    obtain ⟨b2, q4, q5⟩ := q3 rfl rfl
    have eb : b2 = b0 := by simp only [Value.pointer.injEq, Option.some.injEq, Addr.mk.injEq] at q5; exact q5.1.symm
    subst eb
    have eb1 : b1 = b2 := by rw [f1] at q4; simpa [blk] using q4
    subst eb1
    have hw : ∀ b, b < w.heap.size → b ≠ b1 → w'.heap[b]? = w.heap[b]? := fun b hb hne => (h1.kept b ⟨hb, hne⟩).2
    have hX : ∀ b, C2.X b → b < w.heap.size → avd C L σ b := by
      rintro b (hx | ⟨o, _, hb⟩) _
      · exact .inl hx
      · exact .inr ⟨o, hb⟩
    have hback : ∀ b, avd C (L.set m (.vars T cs')) σ b → C2.X b ∨ ∃ o T cs, s'.L[o]? = some (.vars T cs) ∧ own s'.L σ' o b := by
      rintro b (hx | ⟨o, ob, q1, q2, q3⟩)
      · exact .inl (.inl hx)
      · by_cases eo : o = m
        · subst eo
          rw [e1] at q3
          have : b1 = b := by simpa [blk] using q3
          subst this
          exact .inr ⟨0, _, _, hL0, _, hL0, rfl, by rw [f1]; rfl⟩
        · rw [List.getElem?_set_ne (Ne.symm eo)] at q1
          exact .inl (.inr ⟨o, eo, ob, q1, q2, q3⟩)
    refine dj (σ' := σ) hI hm' h1.size (h1.os.trans rfl) h1.tape h1.output (fun b hb hno => hw b hb (fun e => hno (e ▸ hown))) (fun _ _ => rfl) ⟨Nat.le_refl _, fun _ _ => ⟨rfl, rfl, rfl, trivial⟩⟩
      (fun _ b hb => .inl ⟨_, hm', rfl, hb⟩) (fun _ _ => ⟨b1, us1, e1, f2, ?_⟩) (fun _ _ => ?_)
    · rw [← hcs1]
      exact f3.mapL fun c u hc => oL h1 (by rw [hcs1]; exact hback) hc
    · rw [← hr]
      exact xg h1 hback h2

def CLE (a b : AC) : Prop := ∀ C L σ w u, RC C L σ w a u → RC C L σ w b u
def zh (a b : AV) : Prop := ∀ C L σ w u, RV1 C L σ w a u → RV1 C L σ w b u
def VLE (a b : AV) : Prop := ∀ C L σ w u, RV C L σ w a u → RV C L σ w b u
theorem CLE.refl (a : AC) : CLE a a := fun _ _ _ _ _ h => h
theorem CLE.of_eq {a b : AC} (e : a = b) : CLE a b := e ▸ .refl a
theorem VLE.of_eq {a b : AV} (e : a = b) : VLE a b := e ▸ fun _ _ _ _ _ h => h
theorem bl {t : Ty} {xs : List t.den} (h : xs = []) : CLE .nils (.list t xs) := fun C L σ w u hu => by
  subst h
  obtain ⟨h1, h2⟩ := hu
  have e : u = .slice none 0 0 := h2
  subst e
  exact ⟨rfl, fG t⟩
theorem aQ {a b : AC} (h : CLE a b) : zh (.one a) (.one b) := fun C L σ w u hu => h C L σ w u hu
theorem j7 {a b : AC} (h : CLE a b) : VLE (.one a) (.one b) := fun C L σ w u hu => h C L σ w u hu
theorem bn.map2 {α β γ : Type} {r : α → β → Prop} {p : α → γ → Prop} {q : β → γ → Prop} (h : ∀ a b c, r a b → p a c → q b c) : ∀ {as : List α} {bs : List β} {cs : List γ}, bn r as bs → bn p as cs → bn q bs cs
  | [], [], [], _, _ => trivial
  | _ :: _, _ :: _, _ :: _, ⟨a1, a2⟩, ⟨b1, b2⟩ => ⟨h _ _ _ a1 b1, a2.map2 h b2⟩
  | [], _ :: _, _, hh, _ => hh.elim
  | _ :: _, [], _, hh, _ => hh.elim
  | [], [], _ :: _, _, hh => hh.elim
  | _ :: _, _ :: _, [], _, hh => hh.elim
theorem d5 {as bs : List AC} (h : bn CLE as bs) : zh (.agg as) (.agg bs) := fun C L σ w u ⟨vs, e, ha⟩ => ⟨vs, e, h.map2 (fun a b c hab hac => hab C L σ w c hac) ha⟩
theorem ut {as bs : List AC} (h : bn CLE as bs) : VLE (.agg as) (.agg bs) := fun C L σ w u hu => d5 h C L σ w u hu
theorem bS {as bs : List AV} (h : bn zh as bs) : VLE (.tup as) (.tup bs) := fun C L σ w u ⟨vs, e, ha⟩ => ⟨vs, e, h.map2 (fun a b c hab hac => hab C L σ w c hac) ha⟩

theorem aS {P : Program} {f : FuncId} {fn : Func} {c : Code} {args : List AV} {r : AV} (hf : P.funcs[f]? = some fn) (hb : fn.body = some c) (hname : (fn.name == "runtime.NumGoroutine") = false) (hn : args.length ≤ fn.ntmps) (hp : args.all ju = true)
    (h : ∀ C, C.P = P → C.N = fn.ntmps → C.bL = [] → AWP C c (vB P fn fun s' v => VLE (fzV s'.L v) r) { env := bc 0 args, L := [] }) : c7 P f args r := by
  refine ⟨⟨fn, hf, hname, by rw [hb]; rfl⟩, fun C L σ w vs hP hI ha => ?_⟩
  refine (kY hf hb hn hp h hI ha).mono fun e w' hh => ?_
  obtain ⟨s', σ', v, u, rfl, hR, h1, h2⟩ := hh
  refine ⟨u, rfl, ip h1, hR _ _ _ _ _ ?_⟩
  exact gT (fun b _ hb => .inl hb) (sj v) (yy (σ' := σ') h1 h2)

def Fit : (t : Ty) → t.den → Prop
  | .list t, xs => List.length xs ≤ 9223372036854775807 ∧ ∀ i, i < List.length xs → Fit t (List.getD xs i t.dflt)
  | .pair a b, (x, y) => Fit a x ∧ Fit b y
  | _, _ => True
def sF : AC → Prop
  | .list t xs => Fit (.list t) xs
  | .pat t d _ => Fit t d
  | _ => True
def sG : List AC → Prop
  | [] => True
  | c :: r => sF c ∧ sG r
def uq : AV → Prop
  | .one c => sF c
  | .agg cs => sG cs
  | _ => True
theorem Dat.fit {av : Nat → Prop} {w : World} : ∀ {t : Ty} {d : t.den} {cs : List Value}, Dat av w t d cs → Fit t d
  | .int _, _, _, _ => trivial
  | .bool, _, _, _ => trivial
  | .str, _, _, _ => trivial
  | .unit, _, _, _ => trivial
  | .pair a b, (x, y), cs, h => by
    simp only [Dat] at h
    obtain ⟨c1, c2, _, h1, h2⟩ := h
    exact ⟨h1.fit, h2.fit⟩
  | .list t, xs, cs, h => by
    simp only [Dat] at h
    obtain ⟨A, c, _, hc, hm, hr⟩ := h
    refine ⟨?_, fun i hi => ?_⟩
    · have := hm.1; simp only [maxLen] at this; omega
    · obtain ⟨b, o, _, _, _, hi'⟩ := hr (by omega)
      obtain ⟨cs', _, _, hd⟩ := hi' i hi
      exact hd.fit
theorem RC.fit {C : Ctx} {L : List AO} {σ : Sig} {w : World} {c : AC} {u : Value} (h : RC C L σ w c u) : sF c := by
  cases c with
  | list t xs => exact Dat.fit (t := .list t) h.2
  | pat t d off => obtain ⟨_, b, o, cs, _, _, _, _, hd⟩ := h; exact hd.fit
  | _ => trivial
theorem RV.fit {C : Ctx} {L : List AO} {σ : Sig} {w : World} {v : AV} {u : Value} (h : RV C L σ w v u) : uq v := by
  cases v with
  | one c => exact RC.fit h
  | agg cs =>
    obtain ⟨vs, _, ha⟩ := h
    have : ∀ (cs : List AC) (vs : List Value), bn (fun c u => RC C L σ w c u) cs vs → sG cs := by
      intro cs
      induction cs with
      | nil => intro _ _; trivial
      | cons c cs ih =>
        intro vs h
        cases vs with
        | nil => exact h.elim
        | cons v vs => exact ⟨h.1.fit, ih vs h.2⟩
    exact this cs vs ha
  | _ => trivial
theorem pW {C : Ctx} {Q : Exit → St → Prop} {s : St} {c : Code} (k : Nat) {v : AV} (hk : lkp s.env k = v) (h : uq v → AWP C c Q s) : AWP C c Q s := fun σ a w hr => by
  have h1 := hr.env k
  rw [hk] at h1
  exact h h1.fit σ a w hr

def bt (n : Nat) : AC → Bool
  | .row k _ => decide (k < n)
  | .ptr k _ _ _ => decide (k < n)
  | .mpv k => decide (k < n)
  | .rwc k _ => decide (k < n)
  | .fn _ caps => caps.all fun
    | .ref k => decide (k < n)
    | .pat _ _ => true
    | .pfn _ _ => true
  | _ => true
def kf (n : Nat) : AV → Bool
  | .one c => bt n c
  | .agg cs => cs.all (bt n)
  | _ => true
def gL (n : Nat) : AV → Bool
  | .tup vs => vs.all (kf n)
  | v => kf n v
def cR (n : Nat) : AO → Bool
  | .vars _ cs => cs.all (bt n)
  | .rowc _ _ _ cs => cs.all (bt n)
  | _ => true
theorem ko {n m : Nat} (h : n ≤ m) {c : AC} (hc : bt n c = true) : bt m c = true := by
  cases c with
  | row k v => simp only [bt, decide_eq_true_eq] at *; omega
  | ptr k v i o => simp only [bt, decide_eq_true_eq] at *; omega
  | mpv k => simp only [bt, decide_eq_true_eq] at *; omega
  | rwc k v => simp only [bt, decide_eq_true_eq] at *; omega
  | fn f caps =>
    simp only [bt] at *
    refine List.all_eq_true.2 fun c hc' => ?_
    have := List.all_eq_true.1 hc c hc'
    cases c with
    | ref k => simp only [decide_eq_true_eq] at *; omega
    | pat _ _ => rfl
    | pfn _ _ => rfl
  | _ => rfl
theorem mg {C : Ctx} {L : List AO} {σ : Sig} {w : World} {c : AC} {u : Value} (h : RC C L σ w c u) : bt L.length c = true := by
  cases c with
  | row k v => obtain ⟨_, ob, e, _⟩ := h; simp only [bt, decide_eq_true_eq]; exact (List.getElem?_eq_some_iff.1 e).1
  | ptr k v i o => obtain ⟨_, ob, e, _⟩ := h; simp only [bt, decide_eq_true_eq]; exact (List.getElem?_eq_some_iff.1 e).1
  | mpv k => obtain ⟨_, ob, e, _⟩ := h; simp only [bt, decide_eq_true_eq]; exact (List.getElem?_eq_some_iff.1 e).1
  | rwc k v => obtain ⟨_, ob, e, _⟩ := h; simp only [bt, decide_eq_true_eq]; exact (List.getElem?_eq_some_iff.1 e).1
  | fn f caps =>
    obtain ⟨_, vs, _, ha⟩ := h
    refine List.all_eq_true.2 fun c hc => ?_
    obtain ⟨i, hi⟩ := List.getElem?_of_mem hc
    obtain ⟨u, _, hu⟩ := ha.at_ hi
    cases c with
    | ref k => obtain ⟨_, ob, e, _⟩ := hu; simp only [decide_eq_true_eq]; exact (List.getElem?_eq_some_iff.1 e).1
    | pat _ _ => rfl
    | pfn _ _ => rfl
  | _ => rfl

theorem cF {C : Ctx} {Q : Exit → St → Prop} {s : St} {c : Code} {L1 : List AO} {ver n : Nat} (hL : s.L = L1 ++ [.dead ver]) (hn : L1.length = n) (hB : C.bL.length ≤ n) (he : s.env.all (fun x => gL n x.2) = true) (ho : L1.all (cR n) = true)
    (h : AWP C c Q { env := s.env, L := L1 }) : AWP C c Q s := by
  intro σ a w hr
  subst hn
  have hlt : ∀ {k : Nat}, k < L1.length → s.L[k]? = L1[k]? := fun hk => by rw [hL, List.getElem?_append_left hk]
  have hown : ∀ j b, own s.L σ j b ↔ own L1 σ j b := by
    intro j b
    constructor
    · rintro ⟨ob, e1, e2, e3⟩
      rcases Nat.lt_or_ge j L1.length with hj | hj
      · exact ⟨ob, by rw [← hlt hj]; exact e1, e2, e3⟩
      · rw [hL, List.getElem?_append_right hj] at e1
        cases hx : j - L1.length with
        | zero => rw [hx] at e1; simp at e1; subst e1; cases e2
        | succ m => rw [hx] at e1; simp at e1
    · rintro ⟨ob, e1, e2, e3⟩
      exact ⟨ob, by rw [hlt (List.getElem?_eq_some_iff.1 e1).1]; exact e1, e2, e3⟩
  have hav : ∀ b, avd C L1 σ b → avd C s.L σ b := by
    rintro b (hx | ⟨j, hj⟩)
    · exact .inl hx
    · exact .inr ⟨j, (hown j b).2 hj⟩
  have hRP : ∀ k ver i off u, k < L1.length → RP s.L σ k ver i off u → RP L1 σ k ver i off u := by
    rintro k ver i off u hk ⟨ob, e, r⟩
    exact ⟨ob, by rw [← hlt hk]; exact e, r⟩
  have hdat : ∀ {t : Ty} {d : t.den} {cs : List Value}, Dat (avd C s.L σ) w t d cs → Dat (avd C L1 σ) w t d cs := fun hd => hd.keep (Nat.le_refl _) (fun _ _ _ => rfl) (fun b _ hb => hav b hb)
  have hpat : ∀ t d off u, iY C s.L σ w t d off u → iY C L1 σ w t d off u := by
    rintro t d off u ⟨b, o, cs, e, h1, h2, h3, h4⟩
    exact ⟨b, o, cs, e, fun hx => h1 (hav b hx), h2, h3, hdat h4⟩
  have hfnn : ∀ f ds u, RFN C s.L σ w f ds u → RFN C L1 σ w f ds u := by
    rintro f ds u ⟨b, o, vs, e, h1, h2, h3, h4⟩
    exact ⟨b, o, vs, e, fun hx => h1 (hav b hx), h2, h3, h4.mono fun p u hp => ⟨hp.1, hpat _ _ _ _ hp.2⟩⟩
  have hC : ∀ (c : AC) (u : Value), bt L1.length c = true → RC C s.L σ w c u → RC C L1 σ w c u := by
    rintro c u hf ⟨h1, h2⟩
    refine ⟨h1, ?_⟩
    cases c with
    | row k v =>
      simp only [bt, decide_eq_true_eq] at hf
      obtain ⟨ob, e, r⟩ := h2
      exact ⟨ob, by rw [← hlt hf]; exact e, r⟩
    | ptr k v i off => simp only [bt, decide_eq_true_eq] at hf; exact hRP _ _ _ _ _ hf h2
    | mpv k =>
      simp only [bt, decide_eq_true_eq] at hf
      obtain ⟨ob, e, r⟩ := h2
      exact ⟨ob, by rw [← hlt hf]; exact e, r⟩
    | rwc k v =>
      simp only [bt, decide_eq_true_eq] at hf
      obtain ⟨ob, e, r⟩ := h2
      exact ⟨ob, by rw [← hlt hf]; exact e, r⟩
    | fn f caps =>
      obtain ⟨vs, e, ha⟩ := h2
      refine ⟨vs, e, ha.weaken fun c u hc hcu => ?_⟩
      have := List.all_eq_true.1 hf c hc
      cases c with
      | ref k => simp only [decide_eq_true_eq] at this; exact ⟨hcu.1, hRP _ _ _ _ _ this hcu.2⟩
      | pat t d => exact ⟨hcu.1, hpat _ _ _ _ hcu.2⟩
      | pfn f ds => exact ⟨hcu.1, hfnn _ _ _ hcu.2⟩
    | list t xs => exact hdat (t := .list t) h2
    | pat t d off => exact hpat _ _ _ _ h2
    | pfn f ds => exact hfnn _ _ _ h2
    | _ => exact h2
  have h1V : ∀ (v : AV) (u : Value), kf L1.length v = true → RV1 C s.L σ w v u → RV1 C L1 σ w v u := by
    intro v u hf h1
    cases v with
    | undef => trivial
    | void => exact h1
    | one c => exact hC c u hf h1
    | agg cs => obtain ⟨vs, e, ha⟩ := h1; exact ⟨vs, e, ha.weaken fun c u hc hcu => hC c u (List.all_eq_true.1 hf c hc) hcu⟩
    | tup _ => exact h1.elim
  have hV : ∀ (v : AV) (u : Value), gL L1.length v = true → RV C s.L σ w v u → RV C L1 σ w v u := by
    intro v u hf h1
    cases v with
    | tup vs => obtain ⟨us, e, ha⟩ := h1; exact ⟨us, e, ha.weaken fun c u hc hcu => h1V c u (List.all_eq_true.1 hf c hc) hcu⟩
    | undef => trivial
    | void => exact h1
    | one c => exact h1V (.one c) u hf h1
    | agg cs => exact h1V (.agg cs) u hf h1
  have hi := hr.inv
  refine h σ a w ⟨⟨fun o ob e => ?_, fun o o' b h1 h2 => hi.inj o o' b ((hown o b).2 h1) ((hown o' b).2 h2), fun o b h1 => hi.off o b ((hown o b).2 h1), hi.kept, hi.xlt, hi.size, hi.os, hi.tape, hi.output⟩, fun t => ?_, hr.size, hr.defers, fun c u hcu => ?_⟩
  · have hlo := (List.getElem?_eq_some_iff.1 e).1
    have h1 := hi.ob o ob (by rw [hlt hlo]; exact e)
    have hfo := List.all_eq_true.1 ho ob (List.mem_of_getElem? e)
    cases ob with
    | dead _ => trivial
    | vars T cs =>
      obtain ⟨b, vs, e1, e2, e3⟩ := h1
      exact ⟨b, vs, e1, e2, e3.weaken fun c u hc hcu => hC c u (List.all_eq_true.1 hfo c hc) hcu⟩
    | row t e v xs =>
      obtain ⟨flat, h2, h0, h3⟩ := h1
      exact ⟨flat, h2, h0, fun i hi => hdat (h3 i hi)⟩
    | mp T vk es => exact h1
    | itr s pos => exact h1
    | rowc e sz v cs =>
      obtain ⟨flat, n, h2, h0, hl0, h3⟩ := h1
      exact ⟨flat, n, h2, h0, hl0, h3.weaken fun c u hc hcu => hC c u (List.all_eq_true.1 hfo c hc) hcu⟩
  · refine hV _ _ ?_ (hr.env t)
    have : ∀ env : Env, env.all (fun x => gL L1.length x.2) = true → gL L1.length (lkp env t) = true := by
      intro env
      induction env with
      | nil => intro _; rfl
      | cons x env ih =>
        intro hx
        simp only [List.all_cons, Bool.and_eq_true] at hx
        simp only [lkp]
        split
        · exact hx.1
        · exact ih hx.2
    exact this _ he
  · exact hC c u (ko hB (mg hcu)) (hr.pres c u hcu)

theorem eU {C : Ctx} {Q : Exit → St → Prop} {s : St} {c : Code} (k j : Nat) (t : Ty) (e : TypeId) {T : TypeId} {cs : List AC} (ht : 0 < t.size) (hk : s.L[k]? = some (.vars T cs)) (hj : cs[j]? = some .nils)
    (h : AWP C c Q { env := s.env, L := s.L.set k (.vars T (cs.set j (.row s.L.length 0))) ++ [.row t e 0 []] }) : AWP C c Q s := by
  intro σ a w hr
  have hlt : k < s.L.length := (List.getElem?_eq_some_iff.1 hk).1
  have hg : ∀ ob', s.L[s.L.length]? = some ob' → False := fun ob' e => by rw [List.getElem?_eq_none (Nat.le_refl _)] at e; cases e
  have hlast : (s.L ++ [AO.row t e 0 []])[s.L.length]? = some (.row t e 0 []) := by simp
  have t1 := dv (C := C) (L' := s.L ++ [.row t e 0 []]) (σ' := sup σ s.L.length (.slice none 0 0)) (w' := w) s.L.length hr.inv (Nat.le_refl _) rfl rfl rfl (fun _ _ _ => rfl)
    (fun k hk => by
      rcases Nat.lt_or_ge k s.L.length with hl | hl
      · rw [List.getElem?_append_left hl]
      · rw [List.getElem?_eq_none (by simp; omega), List.getElem?_eq_none hl])
    (fun k hk => dP σ _ hk) (fun ob' e => (hg ob' e).elim)
    (fun b ⟨ob', e1, e2, e3⟩ => by rw [b7] at e3; cases e3)
    (fun hp _ ob' e' => by rw [hlast] at e'; cases e'; exact ⟨[], ⟨by simp, .inl ⟨by rw [b7], rfl⟩⟩, ht, fun i hi => by cases hi⟩)
  generalize hL1 : s.L ++ [AO.row t e 0 []] = L1 at *
  generalize hs1 : sup σ s.L.length (.slice none 0 0) = σ1 at *
  have hk' : L1[k]? = some (.vars T cs) := by rw [← hL1, List.getElem?_append_left hlt]; exact hk
  have hlt' : k < L1.length := (List.getElem?_eq_some_iff.1 hk').1
  have hσ : σ1 s.L.length = .slice none 0 0 := by rw [← hs1, b7]
  have t2 := dv (C := C) (L' := L1.set k (.vars T (cs.set j (.row s.L.length 0)))) (σ' := σ1) (w' := w) k t1.1 (Nat.le_refl _) rfl rfl rfl (fun _ _ _ => rfl)
    (fun i hi => by rw [List.getElem?_set_ne (Ne.symm hi)]) (fun _ _ => rfl)
    (fun ob e' => by rw [hk'] at e'; cases e'; exact ⟨.vars T (cs.set j (.row s.L.length 0)), by simp [hlt'], Nat.le_refl _, fun _ _ => ⟨rfl, rfl, rfl, trivial⟩⟩)
    (fun b ⟨ob, e1, e2, e3⟩ => .inl ⟨_, hk', rfl, e3⟩)
    (fun hp _ ob e' => by
      simp [hlt'] at e'
      subst e'
      obtain ⟨b, vs, e1, e2, e3⟩ := t1.1.ob k _ hk'
      refine ⟨b, vs, e1, e2, ?_⟩
      obtain ⟨u, hu, hcu⟩ := e3.at_ hj
      have hvs : vs.set j u = vs := by
        apply List.ext_getElem?
        intro i
        rw [List.getElem?_set]
        split
        · rename_i e; subst e; split
          · exact hu.symm
          · rename_i hh; exact absurd (List.getElem?_eq_some_iff.1 hu).1 hh
        · rfl
      rw [← hvs]
      have hnew : RC C L1 σ1 w (.row s.L.length 0) u := ⟨hcu.1, _, hlast, Nat.le_refl _, fun _ _ => ⟨⟨_, _, _, rfl⟩, by rw [hσ]; exact hcu.2⟩⟩
      exact (e3.mono fun c v hcv => hp c v hcv).set j (hp _ _ hnew))
  refine h σ1 a w ⟨?_, fun t' => ?_, hr.size, hr.defers, ?_⟩
  all_goals (have hset : s.L.set k (.vars T (cs.set j (.row s.L.length 0))) ++ [AO.row t e 0 []] = L1.set k (.vars T (cs.set j (.row s.L.length 0))) := by rw [← hL1, List.set_append, if_pos hlt])
  · show INV C (s.L.set k (.vars T (cs.set j (.row s.L.length 0))) ++ [AO.row t e 0 []]) σ1 w
    rw [hset]; exact t2.1
  · show RV C (s.L.set k (.vars T (cs.set j (.row s.L.length 0))) ++ [AO.row t e 0 []]) σ1 w _ _
    rw [hset]; exact t2.2.rv (t1.2.rv (hr.env t'))
  · show dL C C.bL C.bσ C.bw (s.L.set k (.vars T (cs.set j (.row s.L.length 0))) ++ [AO.row t e 0 []]) σ1 w
    rw [hset]; exact (hr.pres.trans t1.2).trans t2.2
theorem gn {C : Ctx} {Q : Exit → St → Prop} {s : St} {c : Code} (k j : Nat) (t : Ty) (e : TypeId) {T : TypeId} {sz ver : Nat} {cs : List AC} (ht : 0 < t.size) (hk : s.L[k]? = some (.rowc T sz ver cs)) (hj : cs[j]? = some .nils)
    (h : AWP C c Q { env := s.env, L := s.L.set k (.rowc T sz ver (cs.set j (.row s.L.length 0))) ++ [.row t e 0 []] }) : AWP C c Q s := by
  intro σ a w hr
  have hlt : k < s.L.length := (List.getElem?_eq_some_iff.1 hk).1
  have hg : ∀ ob', s.L[s.L.length]? = some ob' → False := fun ob' e => by rw [List.getElem?_eq_none (Nat.le_refl _)] at e; cases e
  have hlast : (s.L ++ [AO.row t e 0 []])[s.L.length]? = some (.row t e 0 []) := by simp
  have t1 := dv (C := C) (L' := s.L ++ [.row t e 0 []]) (σ' := sup σ s.L.length (.slice none 0 0)) (w' := w) s.L.length hr.inv (Nat.le_refl _) rfl rfl rfl (fun _ _ _ => rfl)
    (fun k hk => by
      rcases Nat.lt_or_ge k s.L.length with hl | hl
      · rw [List.getElem?_append_left hl]
      · rw [List.getElem?_eq_none (by simp; omega), List.getElem?_eq_none hl])
    (fun k hk => dP σ _ hk) (fun ob' e => (hg ob' e).elim)
    (fun b ⟨ob', e1, e2, e3⟩ => by rw [b7] at e3; cases e3)
    (fun hp _ ob' e' => by rw [hlast] at e'; cases e'; exact ⟨[], ⟨by simp, .inl ⟨by rw [b7], rfl⟩⟩, ht, fun i hi => by cases hi⟩)
  generalize hL1 : s.L ++ [AO.row t e 0 []] = L1 at *
  generalize hs1 : sup σ s.L.length (.slice none 0 0) = σ1 at *
  have hk' : L1[k]? = some (.rowc T sz ver cs) := by rw [← hL1, List.getElem?_append_left hlt]; exact hk
  have hlt' : k < L1.length := (List.getElem?_eq_some_iff.1 hk').1
  have hσ : σ1 s.L.length = .slice none 0 0 := by rw [← hs1, b7]
  have t2 := dv (C := C) (L' := L1.set k (.rowc T sz ver (cs.set j (.row s.L.length 0)))) (σ' := σ1) (w' := w) k t1.1 (Nat.le_refl _) rfl rfl rfl (fun _ _ _ => rfl)
    (fun i hi => by rw [List.getElem?_set_ne (Ne.symm hi)]) (fun _ _ => rfl)
    (fun ob e' => by rw [hk'] at e'; cases e'; exact ⟨.rowc T sz ver (cs.set j (.row s.L.length 0)), by simp [hlt'], Nat.le_refl _, fun _ _ => ⟨rfl, rfl, rfl, _, rfl⟩⟩)
    (fun b ⟨ob, e1, e2, e3⟩ => .inl ⟨_, hk', rfl, e3⟩)
    (fun hp _ ob e' => by
      simp [hlt'] at e'
      subst e'
      obtain ⟨vs, n, e1, e2, e5, e3⟩ := t1.1.ob k _ hk'
      refine ⟨vs, n, e1, e2, by simpa using e5, ?_⟩
      obtain ⟨u, hu, hcu⟩ := e3.at_ hj
      have hvs : vs.set j u = vs := by
        apply List.ext_getElem?
        intro i
        rw [List.getElem?_set]
        split
        · rename_i e; subst e; split
          · exact hu.symm
          · rename_i hh; exact absurd (List.getElem?_eq_some_iff.1 hu).1 hh
        · rfl
      rw [← hvs]
      have hnew : RC C L1 σ1 w (.row s.L.length 0) u := ⟨hcu.1, _, hlast, Nat.le_refl _, fun _ _ => ⟨⟨_, _, _, rfl⟩, by rw [hσ]; exact hcu.2⟩⟩
      exact (e3.mono fun c v hcv => hp c v hcv).set j (hp _ _ hnew))
  refine h σ1 a w ⟨?_, fun t' => ?_, hr.size, hr.defers, ?_⟩
  all_goals (have hset : s.L.set k (.rowc T sz ver (cs.set j (.row s.L.length 0))) ++ [AO.row t e 0 []] = L1.set k (.rowc T sz ver (cs.set j (.row s.L.length 0))) := by rw [← hL1, List.set_append, if_pos hlt])
  · show INV C (s.L.set k (.rowc T sz ver (cs.set j (.row s.L.length 0))) ++ [AO.row t e 0 []]) σ1 w
    rw [hset]; exact t2.1
  · show RV C (s.L.set k (.rowc T sz ver (cs.set j (.row s.L.length 0))) ++ [AO.row t e 0 []]) σ1 w _ _
    rw [hset]; exact t2.2.rv (t1.2.rv (hr.env t'))
  · show dL C C.bL C.bσ C.bw (s.L.set k (.rowc T sz ver (cs.set j (.row s.L.length 0))) ++ [AO.row t e 0 []]) σ1 w
    rw [hset]; exact (hr.pres.trans t1.2).trans t2.2

theorem vJ {P : Program} {f : FuncId} {args : List AV} {r r' : AV} (h : c7 P f args r) (hv : VLE r r') : c7 P f args r' :=
  ⟨h.1, fun C L σ w vs hP hI ha => (h.2 C L σ w vs hP hI ha).mono fun e w' ⟨v, e1, hm, hr⟩ => ⟨v, e1, hm, hv _ _ _ _ _ hr⟩⟩
theorem uI {P : Program} {f : FuncId} {t : Ty} {xs : List t.den} {r : AV} (h0 : xs = [] → c7 P f [.one .nils] r) (h1 : xs = [] → c7 P f [.one .emp] r) (h2 : 0 < xs.length → c7 P f [.one (.list t xs)] r) (hc : fv P f) : c7 P f [.one (.list t xs)] r := by
  refine ⟨hc, fun C L σ w vs hP hI ha => ?_⟩
  obtain ⟨u, rfl, hu⟩ := ha.one
  rcases ke hu with ⟨e, h⟩ | ⟨e, h⟩ | h
  · exact (h0 e).2 C L σ w _ hP hI ⟨h, trivial⟩
  · exact (h1 e).2 C L σ w _ hP hI ⟨h, trivial⟩
  · exact (h2 h).2 C L σ w _ hP hI ⟨hu, trivial⟩

end Go.AV
