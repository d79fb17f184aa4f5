/- The program's types as the evaluator reads them; data and cells. -/
import Derived.Test.YtfakhaagbimljaaDoorLb
set_option linter.unusedSimpArgs false
set_option linter.unusedVariables false
namespace Go.AV
open Go Go.RowKit

inductive KD where
  | slice (e : TypeId)
  | struct (fs : List (Nat × TypeId × Nat))
  | array (n : Nat) (e : TypeId)
  | int (k : IntKind)
  | str
  | bool
  | map (k e : TypeId)
  | ptr (e : TypeId)
  | other

structure TD where
  k : KD
  size : Nat
  bytes : Nat
  zero : List AC

def ex (P : Program) : TypeDesc → KD
  | .slice e => .slice e
  | .struct fs => .struct (fs.toList.map fun f => (f.offset, f.type, P.cellsOf f.type))
  | .array n e => .array n e
  | .int k => .int k
  | .string => .str
  | .bool => .bool
  | .map k e => .map k e
  | .pointer e => .ptr e
  | _ => .other

def eV : List Value → Option (List AC)
  | [] => some []
  | v :: r => match bc v, eV r with
    | some c, some cs => some (c :: cs)
    | _, _ => none

def aE (P : Program) (t : TypeId) : Option TD :=
  match P.underlying t, P.info? t with
  | some d, some i => match i.zero with
    | some z => match eV z.cells.toList with
      | some cs => some { k := ex P d, size := i.size, bytes := i.bytes, zero := cs }
      | none => none
    | none => none
  | _, _ => none

theorem bG {P : Program} {t : TypeId} {td : TD} (h : aE P t = some td) :
    ∃ d i z, P.underlying t = some d ∧ P.info? t = some i ∧ i.zero = some z ∧ eV z.cells.toList = some td.zero ∧ i.size = td.size ∧ i.bytes = td.bytes ∧ ex P d = td.k := by
  unfold aE at h
  split at h
  · rename_i d i h1 h2
    split at h
    · rename_i z h3
      split at h
      · rename_i cs h4
        simp only [Option.some.injEq] at h
        subst h
        exact ⟨d, i, z, h1, h2, h3, h4, rfl, rfl, rfl⟩
      · cases h
    · cases h
  · cases h

theorem ba {C : Ctx} {L : List AO} {σ : Sig} {w : World} : ∀ {vs : List Value} {cs : List AC}, eV vs = some cs → aR (RC C L σ w) cs vs
  | [], cs, h => by simp only [eV, Option.some.injEq] at h; subst h; trivial
  | v :: r, cs, h => by
    simp only [eV] at h
    split at h
    · rename_i c cs' h1 h2
      simp only [Option.some.injEq] at h
      subst h
      exact ⟨oP h1, ba h2⟩
    · cases h

def cF : KD → Bool
  | .struct _ | .array _ _ => true
  | _ => false

theorem i3 {P : Program} {t : TypeId} {td : TD} (h : aE P t = some td) (w : World) : (isAgg t).run P w = .ok (cF td.k) w := by
  obtain ⟨d, i, z, h1, _, _, _, _, _, h7⟩ := bG h
  unfold isAgg
  rw [Sem.run_bind, run_underlying h1 w, ← h7]
  cases d <;> rfl

theorem aZ {P : Program} {t : TypeId} {td : TD} (h : aE P t = some td) (w : World) : (sizeOf t).run P w = .ok td.size w := by
  obtain ⟨d, i, z, _, h2, _, _, h5, _⟩ := bG h
  simp [sizeOf, typeInfo, h2, h5]

theorem cr {P : Program} {t : TypeId} {td : TD} (h : aE P t = some td) (w : World) : ∃ z, (zeroValue t).run P w = .ok z w ∧ eV z.cells.toList = some td.zero := by
  obtain ⟨d, i, z, _, h2, h3, h4, _⟩ := bG h
  exact ⟨z, by simp [zeroValue, typeInfo, h2, h3], h4⟩

theorem aX {P : Program} {t : TypeId} {td : TD} (h : aE P t = some td) (w : World) : ∃ d, (underlying t).run P w = .ok d w ∧ ex P d = td.k ∧ P.underlying t = some d := by
  obtain ⟨d, i, z, h1, _, _, _, _, _, h7⟩ := bG h
  exact ⟨d, run_underlying h1 w, h7, h1⟩

theorem be {P : Program} {d : TypeDesc} {e : TypeId} (h : ex P d = .slice e) : d = .slice e := by
  cases d <;> simp [ex] at h; subst h; rfl
theorem gJ {P : Program} {d : TypeDesc} {n : Nat} {e : TypeId} (h : ex P d = .array n e) : d = .array n e := by
  cases d <;> simp [ex] at h; obtain ⟨rfl, rfl⟩ := h; rfl
theorem iA {P : Program} {d : TypeDesc} (h : ex P d = .str) : d = .string := by
  cases d <;> simp [ex] at h; rfl
theorem ii {P : Program} {d : TypeDesc} {fs : List (Nat × TypeId × Nat)} (h : ex P d = .struct fs) : ∃ gs, d = .struct gs ∧ gs.toList.map (fun f => (f.offset, f.type, P.cellsOf f.type)) = fs := by
  cases d <;> simp [ex] at h; exact ⟨_, rfl, h⟩

def qc (P : Program) : Nat → TypeId → Option Ty
  | 0, _ => none
  | n + 1, t => match aE P t with
    | some td => match td.k with
      | .int k => some (.int k)
      | .bool => some .bool
      | .str => some .str
      | .slice e => (qc P n e).map .list
      | .struct fs => fs.foldr (fun f acc => match qc P n f.2.1, acc with | some a, some b => some (.pair a b) | _, _ => none) (some .unit)
      | .array m e => match qc P n e with
        | some a => some ((List.range m).foldr (fun _ b => .pair a b) .unit)
        | none => none
      | _ => none
    | none => none

def acs : (t : Ty) → t.den → List AC
  | .int k, n => [.int k n]
  | .bool, b => [.bool b]
  | .str, s => [.str s]
  | .list t, xs => [.list t xs]
  | .unit, _ => []
  | .pair a b, (x, y) => acs a x ++ acs b y

theorem fo {C : Ctx} {L : List AO} {σ : Sig} {w : World} : ∀ {t : Ty} {d : t.den} {cs : List Value}, Dat (avd C L σ) w t d cs → aR (RC C L σ w) (acs t d) cs
  | .int _, _, _, h => by simp only [Dat] at h; subst h; exact ⟨⟨rfl, rfl⟩, trivial⟩
  | .bool, _, _, h => by simp only [Dat] at h; subst h; exact ⟨⟨rfl, rfl⟩, trivial⟩
  | .str, _, _, h => by simp only [Dat] at h; subst h; exact ⟨⟨rfl, rfl⟩, trivial⟩
  | .unit, _, _, h => by simp only [Dat] at h; subst h; trivial
  | .list t, xs, cs, h => by
    have h' := h
    simp only [Dat] at h
    obtain ⟨A, c, rfl, _⟩ := h
    exact ⟨⟨rfl, h'⟩, trivial⟩
  | .pair a b, (x, y), cs, h => by
    simp only [Dat] at h
    obtain ⟨c1, c2, rfl, h1, h2⟩ := h
    exact (fo h1).append (fo h2)

def aY : (t : Ty) → List AC → Option t.den
  | .int k, cs => match cs with | [.int k' n] => if k = k' then some n else none | _ => none
  | .bool, cs => match cs with | [.bool b] => some b | _ => none
  | .str, cs => match cs with | [.str s] => some s | _ => none
  | .list t, cs => match cs with
    | [.list t' xs] => if h : t' = t then some (h ▸ xs : List t.den) else none
    | [.nils] => some ([] : List t.den)
    | _ => none
  | .unit, cs => match cs with | [] => some () | _ => none
  | .pair a b, cs => match aY a (cs.take a.size), aY b (cs.drop a.size) with
    | some x, some y => some (x, y)
    | _, _ => none

theorem aR.take {α β : Type} {p : α → β → Prop} : ∀ {as : List α} {bs : List β} (n : Nat), aR p as bs → aR p (as.take n) (bs.take n)
  | _, _, 0, _ => by simp [aR]
  | [], [], _ + 1, _ => trivial
  | _ :: _, _ :: _, n + 1, ⟨h1, h2⟩ => ⟨h1, h2.take n⟩
  | [], _ :: _, _ + 1, hh => hh.elim
  | _ :: _, [], _ + 1, hh => hh.elim
theorem aR.drop {α β : Type} {p : α → β → Prop} : ∀ {as : List α} {bs : List β} (n : Nat), aR p as bs → aR p (as.drop n) (bs.drop n)
  | _, _, 0, h => h
  | [], [], _ + 1, _ => trivial
  | _ :: _, _ :: _, n + 1, ⟨_, h2⟩ => h2.drop n
  | [], _ :: _, _ + 1, hh => hh.elim
  | _ :: _, [], _ + 1, hh => hh.elim
theorem aR.one {α β : Type} {p : α → β → Prop} {a : α} {bs : List β} (h : aR p [a] bs) : ∃ b, bs = [b] ∧ p a b := by
  cases bs with
  | nil => exact h.elim
  | cons b r => cases r with
    | nil => exact ⟨b, rfl, h.1⟩
    | cons c r => exact h.2.elim
theorem aR.none {α β : Type} {p : α → β → Prop} {bs : List β} (h : aR p [] bs) : bs = [] := by
  cases bs with
  | nil => rfl
  | cons _ _ => exact h.elim

theorem db {av : Nat → Prop} {w : World} (t : Ty) : Dat av w (.list t) ([] : List t.den) [.slice none 0 0] := by
  simp only [Dat]
  exact ⟨none, 0, rfl, Nat.le_refl _, ⟨Nat.zero_le _, fun _ => rfl⟩, fun h => absurd h (by simp)⟩

theorem ef {C : Ctx} {L : List AO} {σ : Sig} {w : World} : ∀ {t : Ty} {d : t.den} {as : List AC} {cs : List Value}, aY t as = some d → aR (RC C L σ w) as cs → Dat (avd C L σ) w t d cs
  | .int k, d, as, cs, h, ha => by
    simp only [aY] at h
    split at h
    · rename_i k' n
      split at h
      · rename_i e; subst e
        simp only [Option.some.injEq] at h; subst h
        obtain ⟨v, rfl, hv⟩ := ha.one
        simp only [Dat]; exact congrArg (fun x => [x]) hv.2
      · cases h
    · cases h
  | .bool, d, as, cs, h, ha => by
    simp only [aY] at h
    split at h
    · simp only [Option.some.injEq] at h; subst h
      obtain ⟨v, rfl, hv⟩ := ha.one
      simp only [Dat]; exact congrArg (fun x => [x]) hv.2
    · cases h
  | .str, d, as, cs, h, ha => by
    simp only [aY] at h
    split at h
    · simp only [Option.some.injEq] at h; subst h
      obtain ⟨v, rfl, hv⟩ := ha.one
      simp only [Dat]; exact congrArg (fun x => [x]) hv.2
    · cases h
  | .list t, d, as, cs, h, ha => by
    simp only [aY] at h
    split at h
    · rename_i t' xs
      split at h
      · rename_i e; subst e
        simp only [Option.some.injEq] at h; subst h
        obtain ⟨v, rfl, hv⟩ := ha.one
        exact hv.2
      · cases h
    · simp only [Option.some.injEq] at h; subst h
      obtain ⟨v, rfl, hv⟩ := ha.one
      have e : v = .slice none 0 0 := hv.2
      subst e
      exact db t
    · cases h
  | .unit, d, as, cs, h, ha => by
    simp only [aY] at h
    split at h
    · have := ha.none; subst this; simp only [Dat]
    · cases h
  | .pair a b, d, as, cs, h, ha => by
    simp only [aY] at h
    split at h
    · rename_i x y h1 h2
      simp only [Option.some.injEq] at h; subst h
      simp only [Dat]
      exact ⟨cs.take a.size, cs.drop a.size, (List.take_append_drop _ _).symm, ef h1 (ha.take _), ef h2 (ha.drop _)⟩
    · cases h

def bm : AV → Option (List AC)
  | .one c => some [c]
  | .agg cs => some cs
  | _ => none

theorem eZ {C : Ctx} {L : List AO} {σ : Sig} {w : World} {v : AV} {cs : List AC} {u : Value} (h : bm v = some cs) (hv : RV C L σ w v u) : aR (RC C L σ w) cs u.cells.toList := by
  cases v with
  | undef => cases h
  | void => cases h
  | tup _ => cases h
  | one c =>
    simp only [bm, Option.some.injEq] at h; subst h
    have h1 : RC C L σ w c u := hv
    have : u.cells = #[u] := by
      have := h1.1
      cases u <;> first | rfl | cases this
    rw [this]
    exact ⟨h1, trivial⟩
  | agg as =>
    simp only [bm, Option.some.injEq] at h; subst h
    obtain ⟨vs, e, ha⟩ := (hv : RV1 C L σ w (.agg as) u)
    subst e
    simpa [Value.cells] using ha

end Go.AV
