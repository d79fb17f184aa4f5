/- The evaluator of one operation, and its soundness. -/
import Derived.Test.YtdkgcbhbpdbmnaaLj
set_option linter.unusedSimpArgs false
set_option linter.unusedVariables false
namespace Go.AV
open Go Go.RowKit

structure EL where
  e : TypeId
  size : Nat
  bytes : Nat
  zero : List AC
  t : Ty

/-- A slice type whose elements are data. -/
def elOf (P : Program) (T : TypeId) : Option EL :=
  match tdOf P T with
  | some td => match td.k with
    | .slice e => match tdOf P e, tyOf P 8 e with
      | some te, some t => if te.size = t.size ∧ te.zero.length = te.size ∧ 0 < te.size then some { e := e, size := te.size, bytes := te.bytes, zero := te.zero, t := t } else none
      | _, _ => none
    | _ => none
  | none => none

theorem el_spec {P : Program} {T : TypeId} {el : EL} (h : elOf P T = some el) :
    ∃ td te, tdOf P T = some td ∧ td.k = .slice el.e ∧ tdOf P el.e = some te ∧ te.size = el.size ∧ te.bytes = el.bytes ∧ te.zero = el.zero ∧ te.size = el.t.size ∧ te.zero.length = te.size ∧ 0 < te.size := by
  unfold elOf at h
  split at h
  · rename_i td h1
    split at h
    · rename_i e h2
      split at h
      · rename_i te t h3 h4
        split at h
        · rename_i h5
          simp only [Option.some.injEq] at h; subst h
          exact ⟨td, te, h1, h2, h3, rfl, rfl, rfl, h5⟩
        · cases h
      · cases h
    · cases h
  · cases h

def fieldsOk (P : Program) : List (Nat × TypeId × Nat) → Bool
  | [] => true
  | f :: r => (match tdOf P f.2.1 with | some tf => tf.size == f.2.2 && !(f.2.2 == 0) | none => false) && fieldsOk P r

/-- A struct type: its fields, its zero. -/
def stOf (P : Program) (T : TypeId) : Option (List (Nat × TypeId × Nat) × List AC) :=
  match tdOf P T with
  | some td => match td.k with
    | .struct fs => if fieldsOk P fs then some (fs, td.zero) else none
    | _ => none
  | none => none

theorem fieldsOk_spec {P : Program} : ∀ {fs : List (Nat × TypeId × Nat)}, fieldsOk P fs = true → ∀ f, f ∈ fs → ∃ tf, tdOf P f.2.1 = some tf ∧ tf.size = f.2.2 ∧ f.2.2 ≠ 0
  | [], _, _, h => by cases h
  | g :: r, hh, f, h => by
    simp only [fieldsOk, Bool.and_eq_true] at hh
    cases h with
    | head =>
      have := hh.1
      split at this
      · rename_i tf h1
        simp only [Bool.and_eq_true, beq_iff_eq, Bool.not_eq_true', beq_eq_false_iff_ne] at this
        exact ⟨tf, h1, this.1, this.2⟩
      · cases this
    | tail _ h => exact fieldsOk_spec hh.2 f h

theorem st_spec {P : Program} {T : TypeId} {fs : List (Nat × TypeId × Nat)} {z : List AC} (h : stOf P T = some (fs, z)) :
    ∃ td, tdOf P T = some td ∧ td.k = .struct fs ∧ td.zero = z ∧ ∀ f, f ∈ fs → ∃ tf, tdOf P f.2.1 = some tf ∧ tf.size = f.2.2 ∧ f.2.2 ≠ 0 := by
  unfold stOf at h
  split at h
  · rename_i td h1
    split at h
    · rename_i fs' h2
      split at h
      · rename_i h3
        simp only [Option.some.injEq, Prod.mk.injEq] at h
        obtain ⟨rfl, rfl⟩ := h
        exact ⟨td, h1, h2, rfl, fieldsOk_spec h3⟩
      · cases h
    · cases h
  · cases h

def opPick (s : St) (c a b : Operand) (K : Out → Prop) : Prop :=
  match ev s.env c with
  | .one (.bool t) => (t = true → K { av := ev s.env a }) ∧ (t = false → K { av := ev s.env b })
  | _ => False
def opAlloc (P : Program) (s : St) (T : TypeId) (K : Out → Prop) : Prop :=
  match tdOf P T with
  | some td => K { av := .one (.ptr s.L.length 0 0 0), new := [.vars T td.zero] } ∨
      (∃ k, s.L[k]? = some (.dead 0) ∧ ∃ (t : Ty) (d : t.den), datOf t td.zero = some d ∧ td.size = t.size ∧ 0 < t.size ∧ td.zero.length = td.size ∧ K { av := .one (.ptr k 1 0 0), upd := [(k, .row t T 1 [d])], fp := [k] }) ∨
      (∃ k, s.L[k]? = some (.dead 0) ∧ 0 < td.size ∧ td.zero.length = td.size ∧ K { av := .one (.ptr k 1 0 0), upd := [(k, .rowc T td.size 1 td.zero)], fp := [k] })
  | none => False
def opBox (s : St) (T : TypeId) (x : Operand) (K : Out → Prop) : Prop :=
  match cellsAV (ev s.env x) with
  | some cs => K { av := .one (.ptr s.L.length 0 0 0), new := [.vars T cs] }
  | none => False
def opBuild (P : Program) (s : St) (T : TypeId) (parts : Array (Nat × Operand)) (K : Out → Prop) : Prop :=
  match stOf P T with
  | some (fs, z) => match fillAC (fun (i : Nat) => (fs[i]?).map fun (f : Nat × TypeId × Nat) => (f.1, f.2.2)) (ev s.env) z parts.toList with
    | some cs => K { av := .agg cs }
    | none => False
  | none => match tdOf P T with
    | some td => match td.k with
      | .array _ e => match tdOf P e with
        | some te => match fillAC (fun (i : Nat) => some (i * te.size, te.size)) (ev s.env) td.zero parts.toList with
          | some cs => K { av := .agg cs }
          | none => False
        | none => False
      | _ => False
    | none => False
def opBuildSlice (P : Program) (s : St) (T : TypeId) (n : Nat) (parts : Array (Nat × Operand)) (K : Out → Prop) : Prop :=
  match elOf P T with
  | some el => match fillAC (fun i => some (i * el.size, el.size)) (ev s.env) (rep el.zero n) parts.toList with
    | some cs => match chunk el.t n cs with
      | some xs => n * el.size ≤ 16777216 ∧ (K { av := .one (.list el.t xs) } ∨ K { av := .one (.row s.L.length 0), new := [.row el.t el.e 0 xs] } ∨ ∃ k, s.L[k]? = some (.dead 0) ∧ K { av := .one (.row k 1), upd := [(k, .row el.t el.e 1 xs)], fp := [k] })
      | none => False
    | none => False
  | none => False
def opLoad (P : Program) (s : St) (T : TypeId) (x : Operand) (K : Out → Prop) : Prop :=
  match tdOf P T with
  | some td => match ev s.env x with
    | .one (.ptr k ver i off) => match s.L[k]? with
      | some (.vars _ cs) => match readAC td cs off with
        | some v => (ver = 0 ∧ i = 0) ∧ K { av := v, fp := [k] }
        | none => False
      | some (.row t _ v xs) => match readAC td (acs t (xs.getD i t.dflt)) off with
        | some v' => (ver = v ∧ i < List.length xs) ∧ K { av := v', fp := [k] }
        | none => False
      | some (.rowc _ sz v cs) => match isAggK td.k with
        | false => (ver = v ∧ off < sz ∧ (i + 1) * sz ≤ cs.length) ∧ K { av := .one (cs.getD (i * sz + off) .junk), fp := [k] }
        | true => (ver = v ∧ i = 0 ∧ off = 0 ∧ td.size = sz ∧ cs.length = sz) ∧ K { av := .agg cs, fp := [k] }
      | _ => False
    | .one (.pat t d off) => match readAC td (acs t d) off with
      | some v => K { av := v }
      | none => False
    | .one (.pfn f ds) => isAggK td.k = false ∧ K { av := .one (.fn f (ds.map fun p => .pat p.1 p.2)) }
    | _ => False
  | none => False
def opStore (P : Program) (s : St) (T : TypeId) (x y : Operand) (K : Out → Prop) : Prop :=
  match tdOf P T with
  | some td => match ev s.env x, cellsAV (ev s.env y) with
    | .one (.ptr k ver i off), some new => match s.L[k]? with
      | some (.vars T' cs) => (ver = 0 ∧ i = 0 ∧ new.length = td.size ∧ off + td.size ≤ cs.length) ∧ K { av := .undef, upd := [(k, .vars T' (writeAC cs off new))], fp := [k] }
      | some (.row t e v xs) => match datOf t (writeAC (acs t (xs.getD i t.dflt)) off new) with
        | some d => (ver = v ∧ i < xs.length ∧ new.length = td.size ∧ off + td.size ≤ t.size) ∧ K { av := .undef, upd := [(k, .row t e ver (xs.set i d))], fp := [k] }
        | none => False
      | some (.rowc e sz v cs) => (ver = v ∧ (i + 1) * sz ≤ cs.length ∧ new.length = td.size ∧ off + td.size ≤ sz) ∧ K { av := .undef, upd := [(k, .rowc e sz ver (writeAC cs (i * sz + off) new))], fp := [k] }
      | _ => False
    | _, _ => False
  | none => False
def opNil (s : St) (x : Operand) (K : Out → Prop) : Prop :=
  match ev s.env x with
  | .one (.ptr k 0 i off) => match s.L[k]? with
    | some (.vars _ _) => K { av := .one (.ptr k 0 i off), fp := [k] }
    | _ => False
  | .one (.pat t d off) => K { av := .one (.pat t d off), fp := [] }
  | _ => False
def opBin (P : Program) (s : St) (op : BinOp) (T : TypeId) (x y : Operand) (K : Out → Prop) : Prop :=
  match ev s.env x, ev s.env y with
  | .one (.int k a), .one (.int k' b) => match arith op k a b with
    | some (p, v) => k = k' ∧ p ∧ K { av := v }
    | none => False
  | .one (.bool a), .one (.bool b) => match op, tdOf P T with
    | .eql, some td => (match td.k with | .bool => True | _ => False) ∧ K { av := .one (.bool (decide (a = b))) }
    | .neq, some td => (match td.k with | .bool => True | _ => False) ∧ K { av := .one (.bool (!decide (a = b))) }
    | _, _ => False
  | .one c, .one .nils => match op, tdOf P T with
    | .eql, some td => (match td.k with | .slice _ => True | _ => False) ∧ (match c with | .nils => K { av := .one (.bool true) } | .emp => K { av := .one (.bool false) } | .list _ xs => 0 < List.length xs ∧ K { av := .one (.bool false) } | _ => False)
    | .neq, some td => (match td.k with | .slice _ => True | _ => False) ∧ (match c with | .nils => K { av := .one (.bool false) } | .emp => K { av := .one (.bool true) } | .list _ xs => 0 < List.length xs ∧ K { av := .one (.bool true) } | _ => False)
    | _, _ => False
  | .one (.str a), .one (.str b) => match strOp op a b with
    | some (p, c) => p ∧ K { av := .one c }
    | none => False
  | .agg as, .agg bs => match op, flatOf P T with
    | .eql, some ks => match eqACs ks as bs with
      | some r => K { av := .one (.bool r) }
      | none => False
    | .neq, some ks => match eqACs ks as bs with
      | some r => K { av := .one (.bool (!r)) }
      | none => False
    | _, _ => False
  | _, _ => False
def opUn (s : St) (op : UnOp) (x : Operand) (K : Out → Prop) : Prop :=
  match op, ev s.env x with
  | .not, .one (.bool a) => K { av := .one (.bool (!a)) }
  | _, _ => False
def opExtract (s : St) (x : Operand) (i : Nat) (K : Out → Prop) : Prop :=
  match ev s.env x with
  | .tup vs => match vs[i]? with
    | some (.tup _) => False
    | some v => K { av := v }
    | none => False
  | _ => False
def capOf : AV → Option Cap
  | .one (.ptr k 0 0 0) => some (.ref k)
  | .one (.pat t d 0) => some (.pat t d)
  | .one (.pfn f ds) => some (.pfn f ds)
  | _ => none
def ptrsOf : List AV → Option (List Cap)
  | [] => some []
  | v :: r => match capOf v, ptrsOf r with | some k, some ks => some (k :: ks) | _, _ => none
def opMakeFunc (s : St) (fn : Fn) (first caps : Array Operand) (K : Out → Prop) : Prop :=
  match fn, first.toList, ptrsOf (caps.toList.map (ev s.env)) with
  | .func f, [], some ks => K { av := .one (.fn f ks) }
  | _, _, _ => False
def opMakeSlice (P : Program) (s : St) (T : TypeId) (x y : Operand) (K : Out → Prop) : Prop :=
  match elOf P T with
  | some el => match ev s.env x, ev s.env y, datOf el.t el.zero with
    | .one (.int _ n), .one (.int _ c), some z0 => (0 ≤ n ∧ n ≤ c ∧ (el.bytes : Int) * c ≤ 281474976710656 ∧ c ≤ 9223372036854775807) ∧ (K { av := .one (.row s.L.length 0), new := [.row el.t el.e 0 (List.replicate n.toNat z0)] } ∨ K { av := .one (.rwc s.L.length 0), new := [.rowc el.e el.size 0 (rep el.zero n.toNat)] } ∨ K { av := .one (.list el.t (List.replicate n.toNat z0)) })
    | _, _, _ => False
  | none => False
def opSlice (P : Program) (s : St) (T : TypeId) (x : Operand) (lo hi mx : Option Operand) (K : Out → Prop) : Prop :=
  match mx, tdOf P T, ev s.env x with
  | none, some _, .one (.list t xs) => match elOf P T, bnd (ev s.env) 0 lo, bnd (ev s.env) (List.length xs) hi with
    | some el, some l, some h => el.size = t.size ∧ (0 ≤ l ∧ l ≤ h ∧ h ≤ List.length xs) ∧ K { av := .one (.list t ((List.take h.toNat xs).drop l.toNat)) }
    | _, _, _ => False
  | none, some td, .one (.str xs) => match bnd (ev s.env) 0 lo, bnd (ev s.env) (List.length xs) hi with
    | some l, some h => (match td.k with | .str => True | _ => False) ∧ (0 ≤ l ∧ l ≤ h ∧ h ≤ List.length xs) ∧ K { av := .one (.str ((List.take h.toNat xs).drop l.toNat)) }
    | _, _ => False
  | none, some _, .one (.row k ver) => match s.L[k]? with
    | some (.row t e v xs) => match elOf P T, bnd (ev s.env) 0 lo, bnd (ev s.env) (List.length xs) hi with
      | some el, some l, some h => (el.size = t.size ∧ ver = v ∧ l = 0) ∧ (0 ≤ h ∧ h ≤ List.length xs) ∧ K { av := .one (.row k (ver + 1)), upd := [(k, .row t e (ver + 1) (List.take h.toNat xs))], fp := [k] }
      | _, _, _ => False
    | _ => False
  | none, some _, .one .nils => match elOf P T, bnd (ev s.env) 0 lo, bnd (ev s.env) 0 hi with
    | some _, some l, some h => (l = 0 ∧ h = 0) ∧ K { av := .one .nils }
    | _, _, _ => False
  | _, _, _ => False
def opFieldAddr (P : Program) (s : St) (T : TypeId) (x : Operand) (f : Nat) (K : Out → Prop) : Prop :=
  match stOf P T with
  | some (fs, _) => match fs[f]?, ev s.env x with
    | some (off, _, _), .one (.ptr k ver i o1) => match s.L[k]? with
      | some (.vars _ _) => ver = 0 ∧ K { av := .one (.ptr k ver i (o1 + off)), fp := [k] }
      | some (.row _ _ v _) => ver = v ∧ K { av := .one (.ptr k ver i (o1 + off)), fp := [k] }
      | some (.rowc _ _ v _) => ver = v ∧ K { av := .one (.ptr k ver i (o1 + off)), fp := [k] }
      | _ => False
    | some (off, _, _), .one (.pat t d o1) => K { av := .one (.pat t d (o1 + off)) }
    | _, _ => False
  | none => False
def opField (P : Program) (s : St) (T : TypeId) (x : Operand) (f : Nat) (K : Out → Prop) : Prop :=
  match stOf P T with
  | some (fs, _) => match fs[f]?, ev s.env x with
    | some (off, ft, _), .agg cs => match tdOf P ft with
      | some tf => match readAC tf cs off with
        | some v => K { av := v }
        | none => False
      | none => False
    | _, _ => False
  | none => False
def opIndexAddr (P : Program) (s : St) (T : TypeId) (x ix : Operand) (K : Out → Prop) : Prop :=
  match elOf P T with
  | some el => match ev s.env x, ev s.env ix with
    | .one (.list t xs), .one (.int _ i) => el.size = t.size ∧ (0 ≤ i ∧ i < List.length xs) ∧ K { av := .one (.pat t (gt t xs i) 0) }
    | .one (.row r ver), .one (.int _ i) => match s.L[r]? with
      | some (.row t _ v xs) => (ver = v ∧ el.size = t.size) ∧ (0 ≤ i ∧ i < List.length xs) ∧ K { av := .one (.ptr r ver i.toNat 0), fp := [r] }
      | _ => False
    | .one (.rwc r ver), .one (.int _ i) => match s.L[r]? with
      | some (.rowc _ sz v cs) => (ver = v ∧ el.size = sz) ∧ (0 ≤ i ∧ i * (sz : Int) < List.length cs) ∧ K { av := .one (.ptr r ver i.toNat 0), fp := [r] }
      | _ => False
    | _, _ => False
  | none => match tdOf P T with
    | some td => match td.k with
      | .array n e => match tdOf P e, ev s.env x, ev s.env ix with
        | some te, .one (.ptr k 0 0 off), .one (.int _ i) => match s.L[k]? with
          | some (.vars _ _) => te.size ≠ 0 ∧ (0 ≤ i ∧ i < (n : Int)) ∧ K { av := .one (.ptr k 0 0 (off + i.toNat * te.size)), fp := [k] }
          | _ => False
        | _, _, _ => False
      | _ => False
    | none => False
def opIndex (P : Program) (s : St) (T : TypeId) (x ix : Operand) (K : Out → Prop) : Prop :=
  match tdOf P T with
  | some td => match td.k, ev s.env x, ev s.env ix with
    | .str, .one (.str l), .one (.int _ i) => (0 ≤ i ∧ i < List.length l) ∧ K { av := .one (.int .u8 ((List.getD l i.toNat 0).toNat : Int)) }
    | .array n e, .agg cs, .one (.int _ i) => match tdOf P e with
      | some te => match readAC te cs (i.toNat * te.size) with
        | some v => (0 ≤ i ∧ i < (n : Int)) ∧ K { av := v }
        | none => False
      | none => False
    | _, _, _ => False
  | none => False
def opLen (P : Program) (s : St) (x : Operand) (ats : Array TypeId) (K : Out → Prop) : Prop :=
  match ats[0]? with
  | some T => match ev s.env x with
    | .one (.mpv k) => match s.L[k]? with
      | some (.mp T' _ es) => T = T' ∧ K { av := .one (.int .i64 (List.length es : Int)), fp := [k] }
      | _ => False
    | .one c => match tdOf P T, lenAC s.L c with
      | some td, some n => lenOk td.k c = true ∧ K { av := .one (.int .i64 (n : Int)), fp := fpAC c }
      | _, _ => False
    | _ => False
  | none => False
def opAppend (P : Program) (s : St) (x y : Operand) (ats : Array TypeId) (K : Out → Prop) : Prop :=
  match ats.toList with
  | [T, T'] => match elOf P T with
    | some el => match ev s.env x, ev s.env y with
      | .one (.row k ver), .one c => match s.L[k]? with
        | some (.row t e v xs) => match srcOf t c with
          | some ys => (T = T' ∧ ver = v ∧ e = el.e ∧ el.size = t.size) ∧ ((List.length xs + List.length ys) * el.bytes ≤ 140737488355328 ∧ List.length xs + List.length ys ≤ 9223372036854775807) ∧
              (K { av := .one (.row k (ver + 1)), upd := [(k, .row t e (ver + 1) (xs ++ ys))], fp := [k] } ∨ K { av := .one (.list t (xs ++ ys)), upd := [(k, .dead (ver + 1))], fp := [k] })
          | none => False
        | _ => False
      | .one .nils, .one (.int .i64 n) => match tdOf P T', datOf el.t el.zero with
        | some td2, some z0 => (match td2.k with | .int _ => True | _ => False) ∧ (0 < n ∧ n * (el.bytes : Int) ≤ 140737488355328 ∧ n ≤ 9223372036854775807) ∧ K { av := .one (.row s.L.length 0), new := [.row el.t el.e 0 (List.replicate n.toNat z0)] }
        | _, _ => False
      | _, _ => False
    | none => False
  | _ => False
def opMM (s : St) (mx : Bool) (x y : Operand) (K : Out → Prop) : Prop :=
  match ev s.env x, ev s.env y with
  | .one (.int k a), .one (.int k' b) => k = k' ∧ K { av := .one (.int k (if mx then max a b else min a b)) }
  | _, _ => False
def opMakeMap (P : Program) (s : St) (T : TypeId) (r : Option Operand) (K : Out → Prop) : Prop :=
  match r, mkOf P T with
  | none, some mk => K { av := .one (.mpv s.L.length), new := [.mp T mk.vk []] }
  | _, _ => False
def opLookup (P : Program) (s : St) (T : TypeId) (x ix : Operand) (ok : Bool) (K : Out → Prop) : Prop :=
  match mkOf P T, ev s.env x, keyAV (ev s.env ix) with
  | some mk, .one (.mpv k), some key => match s.L[k]? with
    | some (.mp T' vk es) => (T = T' ∧ KVok mk.kk key) ∧ K { av := if ok then .tup [.one (vk.ac ((mlook es key).getD 0)), .one (.bool (mlook es key).isSome)] else .one (vk.ac ((mlook es key).getD 0)), fp := [k] }
    | _ => False
  | _, _, _ => False
def valOf : VK → AV → Option Int
  | .int, .one (.int .i64 n) => some n
  | .bool, .one (.bool b) => some (if b then 1 else 0)
  | _, _ => none
def opMapUpdate (P : Program) (s : St) (T : TypeId) (m x v : Operand) (K : Out → Prop) : Prop :=
  match mkOf P T, ev s.env m, keyAV (ev s.env x) with
  | some mk, .one (.mpv k), some key => match s.L[k]? with
    | some (.mp T' vk es) => match valOf vk (ev s.env v) with
      | some n => (T = T' ∧ KVok mk.kk key) ∧ K { av := .undef, upd := [(k, .mp T' vk (mput es key n))], fp := [k] }
      | none => False
    | _ => False
  | _, _, _ => False
def opRange (P : Program) (s : St) (T : TypeId) (x : Operand) (K : Out → Prop) : Prop :=
  match tdOf P T with
  | some td => match td.k, ev s.env x with
    | .str, .one (.str l) => K { av := .one (.ptr s.L.length 0 0 0), new := [.itr l 0] }
    | _, _ => False
  | none => False
def opNext (s : St) (x : Operand) (isS : Bool) (K : Out → Prop) : Prop :=
  match isS, ev s.env x with
  | true, .one (.ptr k 0 0 0) => match s.L[k]? with
    | some (.itr l pos) => K { av := .tup (.one (.bool (decide (pos < List.length l))) :: nextT l pos), upd := [(k, .itr l (nextP l pos))], fp := [k] }
    | _ => False
  | _, _ => False
def opConvert (P : Program) (s : St) (T T' : TypeId) (x : Operand) (K : Out → Prop) : Prop :=
  match tdOf P T, tdOf P T' with
  | some _, some td' => match td'.k, ev s.env x with
    | .int k', .one (.int _ n) => inK k' n ∧ K { av := .one (.int k' n) }
    | _, _ => False
  | _, _ => False
def opCall (P : Program) (s : St) (g : Operand) (as : Array Operand) (K : Out → Prop) : Prop :=
  match ev s.env g with
  | .one (.fn f caps) => ∃ out, CALL P s.L f (as.toList.map (ev s.env) ++ caps.map capAV) out ∧ K out
  | _ => False

def opCallAny (P : Program) (s : St) (c : Call) (K : Out → Prop) : Prop :=
  match c.callee with
  | .value g => opCall P s g c.args K
  | .builtin b => match b, c.args.toList with
    | .len, [x] => opLen P s x c.argTypes K
    | .append, [x, y] => opAppend P s x y c.argTypes K
    | .max, [x, y] => opMM s true x y K
    | .min, [x, y] => opMM s false x y K
    | .cap, [x] => match c.argTypes[0]? with
      | some T => match tdOf P T, ev s.env x with
        | some td, .one .nils => (match td.k with | .slice _ => True | _ => False) ∧ K { av := .one (.int .i64 0) }
        | _, _ => False
      | none => False
    | _, _ => False
  | _ => False

def op1 (P : Program) (s : St) (o : Oper) (K : Out → Prop) : Prop :=
  match o.op with
  | .move x => K { av := ev s.env x }
  | .assign x => K { av := ev s.env x }
  | .pick c a b => opPick s c a b K
  | .alloc T => opAlloc P s T K
  | .box T x => opBox s T x K
  | .build T parts => opBuild P s T parts K
  | .buildSlice T n parts => opBuildSlice P s T n parts K
  | .load T x => opLoad P s T x K
  | .store T x y => opStore P s T x y K
  | .nilCheck x => opNil s x K
  | .binOp op T x y _ => opBin P s op T x y K
  | .unOp op _ x => opUn s op x K
  | .extract x i => opExtract s x i K
  | .makeFunc fn first caps => opMakeFunc s fn first caps K
  | .makeSlice T x y => opMakeSlice P s T x y K
  | .slice T x lo hi mx => opSlice P s T x lo hi mx K
  | .fieldAddr T x f => opFieldAddr P s T x f K
  | .field T x f => opField P s T x f K
  | .indexAddr T x ix => opIndexAddr P s T x ix K
  | .index T x ix => opIndex P s T x ix K
  | .call c => opCallAny P s c K
  | .makeMap T r => opMakeMap P s T r K
  | .lookup T x ix ok => opLookup P s T x ix ok K
  | .mapUpdate T m x v => opMapUpdate P s T m x v K
  | .insert T m x v => opMapUpdate P s T m x v K
  | .range T x => opRange P s T x K
  | .next x isS => opNext s x isS K
  | .convert T T' x => opConvert P s T T' x K
  | _ => False

section
variable {C : Ctx} {s : St} {o : Oper} {K : Out → Prop}

theorem pick_sound {c a b : Operand} (ho : o.op = .pick c a b) (h : opPick s c a b K) : ∃ out, GOOD C s.L o (ev s.env) out ∧ K out := by
  unfold opPick at h
  split at h
  · rename_i t hc
    have := good_pick (C := C) (L0 := s.L) (opn := ev s.env) ho hc
    cases t
    · exact ⟨_, this, h.2 rfl⟩
    · exact ⟨_, this, h.1 rfl⟩
  · exact h.elim

theorem load_sound {T : TypeId} {x : Operand} (ho : o.op = .load T x) (h : opLoad C.P s T x K) : ∃ out, GOOD C s.L o (ev s.env) out ∧ K out := by
  unfold opLoad at h
  split at h
  · rename_i td ht
    split at h
    · rename_i k ver i off hx
      split at h
      · rename_i T' cs hob
        split at h
        · rename_i v hr
          obtain ⟨⟨h1, h2⟩, hK⟩ := h
          exact ⟨_, good_load ho ht hx (by simp only [cellsAt, hob, h1, h2, and_self, if_true]) hr, hK⟩
        · exact h.elim
      · rename_i t e v xs hob
        split at h
        · rename_i v' hr
          obtain ⟨⟨h1, h2⟩, hK⟩ := h
          exact ⟨_, good_load ho ht hx (by simp only [cellsAt, hob, h1, h2, and_self, if_true]) hr, hK⟩
        · exact h.elim
      · rename_i e sz v cs hob
        split at h
        · rename_i h0
          obtain ⟨⟨h1, h2, h3⟩, hK⟩ := h
          have h3' := h3
          rw [Nat.add_mul, Nat.one_mul] at h3'
          refine ⟨_, good_load ho ht hx (cs := (cs.drop (i * sz)).take sz) (by simp only [cellsAt, hob, h1, h3, and_self, if_true]) ?_, hK⟩
          unfold readAC
          rw [h0, List.getElem?_take_of_lt h2, List.getElem?_drop]
          have h4 : i * sz + off < cs.length := by omega
          simp [List.getD, List.getElem?_eq_getElem h4]
        · rename_i h0
          obtain ⟨⟨h1, h2, h3, h4, h5⟩, hK⟩ := h
          subst h2; subst h3
          refine ⟨_, good_load ho ht hx (cs := cs) (by
            have hle : (0 + 1) * sz ≤ cs.length := by omega
            simp only [cellsAt, hob, h1, hle, and_self, if_true, Nat.zero_mul, List.drop_zero, Option.some.injEq]
            exact List.take_of_length_le (by omega)) ?_, hK⟩
          unfold readAC
          rw [h0, if_pos rfl, if_pos (by omega)]
          rw [List.drop_zero, List.take_of_length_le (by omega)]
      · exact h.elim
    · rename_i t d off hx
      split at h
      · rename_i v hr
        exact ⟨_, good_load_pat ho ht hx hr, h⟩
      · exact h.elim
    · rename_i f ds hx
      exact ⟨_, good_load_pfn ho ht h.1 hx, h.2⟩
    · exact h.elim
  · exact h.elim

theorem store_sound {T : TypeId} {x y : Operand} (ho : o.op = .store T x y) (h : opStore C.P s T x y K) : ∃ out, GOOD C s.L o (ev s.env) out ∧ K out := by
  unfold opStore at h
  split at h
  · rename_i td ht
    split at h
    · rename_i k ver i off new hx hy
      split at h
      · rename_i T' cs hob
        obtain ⟨⟨rfl, rfl, h1, h2⟩, hK⟩ := h
        exact ⟨_, good_store ho ht hx hob hy h1 h2, hK⟩
      · rename_i t e v xs hob
        split at h
        · rename_i d hd
          obtain ⟨⟨rfl, h0, h1, h2⟩, hK⟩ := h
          exact ⟨_, good_store_row ho ht hx hob h0 hy h1 h2 hd, hK⟩
        · exact h.elim
      · rename_i e sz v cs hob
        obtain ⟨⟨rfl, h0, h1, h2⟩, hK⟩ := h
        exact ⟨_, good_store_rowc ho ht hx hob h0 hy h1 h2, hK⟩
      · exact h.elim
    · exact h.elim
  · exact h.elim

theorem nil_sound {x : Operand} (ho : o.op = .nilCheck x) (h : opNil s x K) : ∃ out, GOOD C s.L o (ev s.env) out ∧ K out := by
  unfold opNil at h
  split at h
  · rename_i k i off hx
    split at h
    · rename_i T cs hob
      have := good_nilCheck (C := C) (L0 := s.L) (opn := ev s.env) ho (.inl ⟨k, i, off, hx, T, cs, hob⟩)
      rw [hx] at this
      exact ⟨_, this, h⟩
    · exact h.elim
  · rename_i t d off hx
    have := good_nilCheck (C := C) (L0 := s.L) (opn := ev s.env) ho (.inr ⟨t, d, off, hx⟩)
    rw [hx] at this
    exact ⟨_, this, h⟩
  · exact h.elim

theorem bin_sound {op : BinOp} {T T' : TypeId} {x y : Operand} (ho : o.op = .binOp op T x y T') (h : opBin C.P s op T x y K) : ∃ out, GOOD C s.L o (ev s.env) out ∧ K out := by
  unfold opBin at h
  split at h
  · rename_i k a k' b hx hy
    split at h
    · rename_i p v hr
      obtain ⟨rfl, hp, hK⟩ := h
      exact ⟨_, good_arith ho hx hy hr hp, hK⟩
    · exact h.elim
  · rename_i a b hx hy
    split at h
    · rename_i td ht
      have hk : td.k = .bool := by
        have := h.1
        cases hk : td.k <;> simp [hk] at this; rfl
      exact ⟨_, good_eqBool (neg := false) ho ht hk hx hy, h.2⟩
    · rename_i td ht
      have hk : td.k = .bool := by
        have := h.1
        cases hk : td.k <;> simp [hk] at this; rfl
      exact ⟨_, good_eqBool (neg := true) ho ht hk hx hy, h.2⟩
    · exact h.elim
  · rename_i c hx hy
    split at h
    · rename_i td ht
      obtain ⟨hk0, h⟩ := h
      have hk : ∃ e, td.k = .slice e := by
        cases hk : td.k <;> simp [hk] at hk0; exact ⟨_, rfl⟩
      obtain ⟨e, hk⟩ := hk
      split at h
      · exact ⟨_, good_eqNil (neg := false) ho ht hk hx hy (.inl ⟨rfl, rfl⟩), h⟩
      · exact ⟨_, good_eqNil (neg := false) ho ht hk hx hy (.inr (.inl ⟨rfl, rfl⟩)), h⟩
      · exact ⟨_, good_eqNil (neg := false) ho ht hk hx hy (.inr (.inr ⟨_, _, rfl, h.1, rfl⟩)), h.2⟩
      · exact h.elim
    · rename_i td ht
      obtain ⟨hk0, h⟩ := h
      have hk : ∃ e, td.k = .slice e := by
        cases hk : td.k <;> simp [hk] at hk0; exact ⟨_, rfl⟩
      obtain ⟨e, hk⟩ := hk
      split at h
      · exact ⟨_, good_eqNil (neg := true) ho ht hk hx hy (.inl ⟨rfl, rfl⟩), h⟩
      · exact ⟨_, good_eqNil (neg := true) ho ht hk hx hy (.inr (.inl ⟨rfl, rfl⟩)), h⟩
      · exact ⟨_, good_eqNil (neg := true) ho ht hk hx hy (.inr (.inr ⟨_, _, rfl, h.1, rfl⟩)), h.2⟩
      · exact h.elim
    · exact h.elim
  · rename_i a b hx hy
    split at h
    · rename_i p c hs; exact ⟨_, good_str ho hx hy hs h.1, h.2⟩
    · exact h.elim
  · rename_i as bs hx hy
    split at h
    · rename_i ks hf
      split at h
      · rename_i r he
        exact ⟨_, good_eqFlat (neg := false) ho hf hx hy he, h⟩
      · exact h.elim
    · rename_i ks hf
      split at h
      · rename_i r he
        exact ⟨_, good_eqFlat (neg := true) ho hf hx hy he, h⟩
      · exact h.elim
    · exact h.elim
  · exact h.elim

theorem capOf_spec {v : AV} {k : Cap} (h : capOf v = some k) : v = capAV k := by
  unfold capOf at h
  split at h <;> simp only [Option.some.injEq, reduceCtorEq] at h <;> subst h <;> rfl
theorem ptrsOf_spec : ∀ {l : List AV} {ks : List Cap}, ptrsOf l = some ks → l = ks.map capAV
  | [], ks, h => by simp only [ptrsOf, Option.some.injEq] at h; subst h; rfl
  | v :: r, ks, h => by
    simp only [ptrsOf] at h
    split at h
    · rename_i k ks' h1 h2
      simp only [Option.some.injEq] at h; subst h
      simp [ptrsOf_spec h2, capOf_spec h1]
    · cases h

theorem fieldAddr_sound {T : TypeId} {x : Operand} {f : Nat} (ho : o.op = .fieldAddr T x f) (h : opFieldAddr C.P s T x f K) : ∃ out, GOOD C s.L o (ev s.env) out ∧ K out := by
  unfold opFieldAddr at h
  split at h
  · rename_i fs z hst
    obtain ⟨td, ht, hk, _, hall⟩ := st_spec hst
    split at h
    · rename_i off ft sz k ver i o1 hf hx
      obtain ⟨_, _, _, hne⟩ := hall _ (List.mem_of_getElem? hf)
      split at h
      · rename_i T' cs hob
        obtain ⟨rfl, hK⟩ := h
        exact ⟨_, good_fieldAddr ho ht hk hf hne hx hob rfl rfl, hK⟩
      · rename_i t e v xs hob
        obtain ⟨rfl, hK⟩ := h
        exact ⟨_, good_fieldAddr ho ht hk hf hne hx hob rfl rfl, hK⟩
      · rename_i e sz v cs hob
        obtain ⟨rfl, hK⟩ := h
        exact ⟨_, good_fieldAddr ho ht hk hf hne hx hob rfl rfl, hK⟩
      · exact h.elim
    · rename_i off ft sz t d o1 hf hx
      obtain ⟨_, _, _, hne⟩ := hall _ (List.mem_of_getElem? hf)
      exact ⟨_, good_fieldAddr_pat ho ht hk hf hne hx, h⟩
    · exact h.elim
  · exact h.elim

theorem field_sound {T : TypeId} {x : Operand} {f : Nat} (ho : o.op = .field T x f) (h : opField C.P s T x f K) : ∃ out, GOOD C s.L o (ev s.env) out ∧ K out := by
  unfold opField at h
  split at h
  · rename_i fs z hst
    obtain ⟨td, ht, hk, _, hall⟩ := st_spec hst
    split at h
    · rename_i off ft sz cs hf hx
      split at h
      · rename_i tf htf
        split at h
        · rename_i v hr
          exact ⟨_, good_field ho ht hk hf htf hx hr, h⟩
        · exact h.elim
      · exact h.elim
    · exact h.elim
  · exact h.elim

theorem indexAddr_sound {T : TypeId} {x ix : Operand} (ho : o.op = .indexAddr T x ix) (h : opIndexAddr C.P s T x ix K) : ∃ out, GOOD C s.L o (ev s.env) out ∧ K out := by
  unfold opIndexAddr at h
  split at h
  · rename_i el hel
    obtain ⟨td, te, ht, hk, hte, h1, h2, h3, h4, h5, h6⟩ := el_spec hel
    split at h
    · rename_i t xs k i hx hix
      obtain ⟨hs, ⟨h7, h8⟩, hK⟩ := h
      exact ⟨_, good_index_list ho ht hk hte (by rw [h1, hs]) hx hix h7 h8, hK⟩
    · rename_i r ver k i hx hix
      split at h
      · rename_i t e v xs hob
        obtain ⟨⟨rfl, hs⟩, ⟨h7, h8⟩, hK⟩ := h
        exact ⟨_, good_index_row ho ht hk hte (by rw [h1, hs]) hx hob hix h7 h8, hK⟩
      · exact h.elim
    · rename_i r ver k i hx hix
      split at h
      · rename_i e sz v cs hob
        obtain ⟨⟨rfl, hs⟩, ⟨h7, h8⟩, hK⟩ := h
        exact ⟨_, good_index_rowc ho ht hk hte (by rw [h1, hs]) hx hob hix h7 h8, hK⟩
      · exact h.elim
    · exact h.elim
  · split at h
    · rename_i td ht
      split at h
      · rename_i n e hk
        split at h
        · rename_i te k off k' i hte hx hix
          split at h
          · rename_i T' cs hob
            obtain ⟨h6, ⟨h7, h8⟩, hK⟩ := h
            exact ⟨_, good_index_arr ho ht hk hte hx hob hix h7 h8 h6, hK⟩
          · exact h.elim
        · exact h.elim
      · exact h.elim
    · exact h.elim

theorem slice_sound {T : TypeId} {x : Operand} {lo hi mx : Option Operand} (ho : o.op = .slice T x lo hi mx) (h : opSlice C.P s T x lo hi mx K) : ∃ out, GOOD C s.L o (ev s.env) out ∧ K out := by
  unfold opSlice at h
  split at h
  · rename_i t xs ht hx
    split at h
    · rename_i el l h' hel hlo hhi
      obtain ⟨td', te, ht', hk, hte, h1, h2, h3, h4, h5, h6⟩ := el_spec hel
      obtain ⟨hs, ⟨q1, q2, q3⟩, hK⟩ := h
      exact ⟨_, good_slice_list ho ht' hk hte (by rw [h1, hs]) hx hlo hhi q1 q2 q3, hK⟩
    · exact h.elim
  · rename_i td xs ht hx
    split at h
    · rename_i l h' hlo hhi
      obtain ⟨hs, ⟨q1, q2, q3⟩, hK⟩ := h
      have hk : td.k = .str := by cases hk : td.k <;> simp [hk] at hs; rfl
      exact ⟨_, good_slice_str ho ht hk hx hlo hhi q1 q2 q3, hK⟩
    · exact h.elim
  · rename_i k ver ht hx
    split at h
    · rename_i t e v xs hob
      split at h
      · rename_i el l h' hel hlo hhi
        obtain ⟨td', te, ht', hk, hte, h1, h2, h3, h4, h5, h6⟩ := el_spec hel
        obtain ⟨⟨hs, rfl, rfl⟩, ⟨q2, q3⟩, hK⟩ := h
        exact ⟨_, good_slice_row ho ht' hk hte (by rw [h1, hs]) hx hob hlo hhi q2 q3, hK⟩
      · exact h.elim
    · exact h.elim
  · rename_i ht hx
    split at h
    · rename_i el l h' hel hlo hhi
      obtain ⟨td', te, ht', hk, hte, h1, h2, h3, h4, h5, h6⟩ := el_spec hel
      obtain ⟨⟨rfl, rfl⟩, hK⟩ := h
      exact ⟨_, good_slice_nil ho ht' hk hte hx hlo hhi, hK⟩
    · exact h.elim
  · exact h.elim

theorem append_sound {x y : Operand} {ats : Array TypeId} (ho : o.op = .call { callee := .builtin .append, args := #[x, y], argTypes := ats }) (h : opAppend C.P s x y ats K) : ∃ out, GOOD C s.L o (ev s.env) out ∧ K out := by
  unfold opAppend at h
  split at h
  · rename_i T T' hats
    have ha0 : ats = #[T, T'] := by rw [← Array.toArray_toList (xs := ats), hats]
    split at h
    · rename_i el hel
      obtain ⟨td, te, ht, hk, hte, h1, h2, h3, h4, h5, h6⟩ := el_spec hel
      split at h
      · rename_i k ver c hx hy
        split at h
        · rename_i t e v xs hob
          split at h
          · rename_i ys hs
            obtain ⟨⟨rfl, rfl, rfl, hsz⟩, ⟨h7, h8⟩, hK⟩ := h
            have hga := good_append ho ha0 ht hk hte (by rw [h1, hsz]) (by rw [h5, h1, hsz]) hx hob hy hs (by rw [h2]; exact h7) h8
            rcases hK with hK | hK
            · exact ⟨_, hga, hK⟩
            · exact ⟨_, good_fz (List.getElem?_eq_some_iff.1 hob).1 hga, hK⟩
          · exact h.elim
        · exact h.elim
      · rename_i n hx hy
        split at h
        · rename_i td2 z0 ht2 hz0
          obtain ⟨hq, ⟨q1, q2, q3⟩, hK⟩ := h
          have hk2 : ∃ q, td2.k = .int q := by
            cases hq2 : td2.k <;> simp [hq2] at hq
            exact ⟨_, rfl⟩
          exact ⟨_, good_append_zeros ho ha0 ht hk ht2 hk2 hte h4 h5 h6 hx hy q1 (by rw [h2]; exact q2) q3 (by rw [h3]; exact hz0), hK⟩
        · exact h.elim
      · exact h.elim
    · exact h.elim
  · exact h.elim

theorem mm_sound {mx : Bool} {x y : Operand} {ats : Array TypeId} (ho : o.op = .call { callee := .builtin (if mx then .max else .min), args := #[x, y], argTypes := ats }) (h : opMM s mx x y K) : ∃ out, GOOD C s.L o (ev s.env) out ∧ K out := by
  unfold opMM at h
  split at h
  · rename_i k a k' b hx hy
    obtain ⟨rfl, hK⟩ := h
    cases mx
    · exact ⟨_, good_min ho hx hy, hK⟩
    · exact ⟨_, good_max ho hx hy, hK⟩
  · exact h.elim
theorem valOf_ac {vk : VK} {v : AV} {n : Int} (h : valOf vk v = some n) : v = .one (vk.ac n) := by
  unfold valOf at h
  split at h
  · simp only [Option.some.injEq] at h; subst h; rfl
  · rename_i b
    simp only [Option.some.injEq] at h; subst h
    cases b <;> rfl
  · cases h

theorem call_sound {c : Call} (ho : o.op = .call c) (h : opCallAny C.P s c K) : ∃ out, GOOD C s.L o (ev s.env) out ∧ K out := by
  obtain ⟨callee, as, ats⟩ := c
  unfold opCallAny at h
  cases callee with
  | value g =>
    simp only at h
    unfold opCall at h
    split at h
    · rename_i f caps hg
      obtain ⟨out, hc, hK⟩ := h
      exact ⟨out, good_call ho hg hc, hK⟩
    · exact h.elim
  | invoke r m => exact h.elim
  | builtin b =>
    simp only at h
    split at h
    · rename_i x has
      have : as = #[x] := by rw [← Array.toArray_toList (xs := as), has]
      subst this
      unfold opLen at h
      split at h
      · rename_i T hat
        split at h
        · rename_i k hx
          split at h
          · rename_i T' vk es hob
            obtain ⟨rfl, h⟩ := h
            exact ⟨_, good_lenMap ho hat hx hob, h⟩
          · exact h.elim
        · rename_i c hnm hx
          split at h
          · rename_i td n ht hn
            exact ⟨_, good_len ho hat ht h.1 hx hn, h.2⟩
          · exact h.elim
        · exact h.elim
      · exact h.elim
    · rename_i x y has
      have : as = #[x, y] := by rw [← Array.toArray_toList (xs := as), has]
      subst this
      exact append_sound ho h
    · rename_i x y has
      have : as = #[x, y] := by rw [← Array.toArray_toList (xs := as), has]
      subst this
      exact mm_sound (mx := true) ho h
    · rename_i x y has
      have : as = #[x, y] := by rw [← Array.toArray_toList (xs := as), has]
      subst this
      exact mm_sound (mx := false) ho h
    · rename_i x has
      have : as = #[x] := by rw [← Array.toArray_toList (xs := as), has]
      subst this
      split at h
      · rename_i T hat
        split at h
        · rename_i td ht hx
          have hk : ∃ e, td.k = .slice e := by
            have := h.1
            cases hk : td.k <;> simp [hk] at this
            exact ⟨_, rfl⟩
          exact ⟨_, good_capNil ho hat ht hk hx, h.2⟩
        · exact h.elim
      · exact h.elim
    · exact h.elim

theorem op1_sound (h : op1 C.P s o K) : ∃ out, GOOD C s.L o (ev s.env) out ∧ K out := by
  unfold op1 at h
  split at h
  · rename_i x ho; exact ⟨_, good_move ho, h⟩
  · rename_i x ho; exact ⟨_, good_assign ho, h⟩
  · rename_i c a b ho; exact pick_sound ho h
  · rename_i T ho
    unfold opAlloc at h
    split at h
    · rename_i td ht
      rcases h with h | ⟨k, hob, t, d, h1, h2, h3, h4, h⟩ | ⟨k, hob, h1, h2, h⟩
      · exact ⟨_, good_alloc ho ht, h⟩
      · exact ⟨_, good_alloc_hole ho ht hob h1 h2 h3 h4, h⟩
      · exact ⟨_, good_alloc_holec ho ht hob h1 h2, h⟩
    · exact h.elim
  · rename_i T x ho
    unfold opBox at h
    split at h
    · rename_i cs hc; exact ⟨_, good_box ho hc, h⟩
    · exact h.elim
  · rename_i T parts ho
    unfold opBuild at h
    split at h
    · rename_i fs z hst
      obtain ⟨td, ht, hk, hz, hall⟩ := st_spec hst
      split at h
      · rename_i cs hf
        exact ⟨_, good_build ho ht hk (fun f hf => by obtain ⟨tf, a, b, _⟩ := hall f hf; exact ⟨tf, a, b⟩) (by rw [hz]; exact hf), h⟩
      · exact h.elim
    · split at h
      · rename_i td ht
        split at h
        · rename_i n e hk
          split at h
          · rename_i te hte
            split at h
            · rename_i cs hf
              exact ⟨_, good_build_arr ho ht hk hte hf, h⟩
            · exact h.elim
          · exact h.elim
        · exact h.elim
      · exact h.elim
  · rename_i T n parts ho
    unfold opBuildSlice at h
    split at h
    · rename_i el hel
      obtain ⟨td, te, ht, hk, hte, h1, h2, h3, h4, h5, h6⟩ := el_spec hel
      split at h
      · rename_i cs hf
        split at h
        · rename_i xs hc
          rcases h.2 with h2' | h2' | ⟨k, hk0, h2'⟩
          · exact ⟨_, good_buildSlice ho ht hk hte h4 h5 h6 (by rw [h1]; exact h.1) (by rw [h1, h3]; exact hf) hc, h2'⟩
          · exact ⟨_, good_buildSlice_row ho ht hk hte h4 h5 h6 (by rw [h1]; exact h.1) (by rw [h1, h3]; exact hf) hc, h2'⟩
          · exact ⟨_, good_buildSlice_hole hk0 ho ht hk hte h4 h5 h6 (by rw [h1]; exact h.1) (by rw [h1, h3]; exact hf) hc, h2'⟩
        · exact h.elim
      · exact h.elim
    · exact h.elim
  · rename_i T x ho; exact load_sound ho h
  · rename_i T x y ho; exact store_sound ho h
  · rename_i x ho; exact nil_sound ho h
  · rename_i op T x y T' ho; exact bin_sound ho h
  · rename_i op T x ho
    unfold opUn at h
    split at h
    · rename_i a hx; exact ⟨_, good_not ho hx, h⟩
    · exact h.elim
  · rename_i x i ho
    unfold opExtract at h
    split at h
    · rename_i vs hx
      split at h
      · exact h.elim
      · rename_i v hnt hv
        exact ⟨_, good_extract ho hx hv (by cases v <;> first | rfl | exact absurd rfl (hnt _)), h⟩
      · exact h.elim
    · exact h.elim
  · rename_i fn first caps ho
    unfold opMakeFunc at h
    split at h
    · rename_i f ks hfirst hks
      have : first = #[] := by rw [← Array.toArray_toList (xs := first), hfirst]
      subst this
      exact ⟨_, good_makeFunc ho (ptrsOf_spec hks), h⟩
    · exact h.elim
  · rename_i T x y ho
    unfold opMakeSlice at h
    split at h
    · rename_i el hel
      obtain ⟨td, te, ht, hk, hte, h1, h2, h3, h4, h5, h6⟩ := el_spec hel
      split at h
      · rename_i k n k' c z0 hx hy hz
        obtain ⟨⟨q1, q2, q3, q4⟩, hK⟩ := h
        rcases hK with hK | hK | hK
        · exact ⟨_, good_make ho ht hk hte h4 h5 h6 hx hy q1 q2 (by rw [h2]; exact q3) q4 (by rw [h3]; exact hz), hK⟩
        · have := good_make_rowc (C := C) (L0 := s.L) (opn := ev s.env) ho ht hk hte h5 h6 hx hy q1 q2 (by rw [h2]; exact q3) q4
          rw [h1, h3] at this
          exact ⟨_, this, hK⟩
        · exact ⟨_, good_make_list ho ht hk hte h4 h5 h6 hx hy q1 q2 (by rw [h2]; exact q3) q4 (by rw [h3]; exact hz), hK⟩
      · exact h.elim
    · exact h.elim
  · rename_i T x lo hi mx ho; exact slice_sound ho h
  · rename_i T x f ho; exact fieldAddr_sound ho h
  · rename_i T x f ho; exact field_sound ho h
  · rename_i T x ix ho; exact indexAddr_sound ho h
  · rename_i T x ix ho
    unfold opIndex at h
    split at h
    · rename_i td ht
      split at h
      · rename_i l k i hk hx hix
        obtain ⟨⟨q1, q2⟩, hK⟩ := h
        exact ⟨_, good_index_str ho ht hk hx hix q1 q2, hK⟩
      · rename_i n e cs k i hk hx hix
        split at h
        · rename_i te hte
          split at h
          · rename_i v hv
            obtain ⟨⟨q1, q2⟩, hK⟩ := h
            exact ⟨_, good_index_arrv ho ht hk hte hx hix q1 q2 hv, hK⟩
          · exact h.elim
        · exact h.elim
      · exact h.elim
    · exact h.elim
  · rename_i c ho; exact call_sound ho h
  · rename_i T r ho
    unfold opMakeMap at h
    split at h
    · rename_i mk hm; exact ⟨_, good_makeMap ho hm, h⟩
    · exact h.elim
  · rename_i T x ix ok ho
    unfold opLookup at h
    split at h
    · rename_i mk k key hm hx hk
      split at h
      · rename_i T' vk es hob
        obtain ⟨⟨rfl, hok⟩, hK⟩ := h
        exact ⟨_, good_lookup ho hx hob hm hk hok, hK⟩
      · exact h.elim
    · exact h.elim
  · rename_i T m x v ho
    unfold opMapUpdate at h
    split at h
    · rename_i mk k key hm hx hk
      split at h
      · rename_i T' vk es hob
        split at h
        · rename_i n hv
          obtain ⟨⟨rfl, hok⟩, hK⟩ := h
          exact ⟨_, good_mapUpdate ho hx hob hm hk hok (valOf_ac hv), hK⟩
        · exact h.elim
      · exact h.elim
    · exact h.elim
  · rename_i T m x v ho
    unfold opMapUpdate at h
    split at h
    · rename_i mk k key hm hx hk
      split at h
      · rename_i T' vk es hob
        split at h
        · rename_i n hv
          obtain ⟨⟨rfl, hok⟩, hK⟩ := h
          exact ⟨_, good_insert ho hx hob hm hk hok (valOf_ac hv), hK⟩
        · exact h.elim
      · exact h.elim
    · exact h.elim
  · rename_i T x ho
    unfold opRange at h
    split at h
    · rename_i td ht
      split at h
      · rename_i l hk hx; exact ⟨_, good_range ho ht hk hx, h⟩
      · exact h.elim
    · exact h.elim
  · rename_i x isS ho
    unfold opNext at h
    split at h
    · rename_i k hx
      split at h
      · rename_i l pos hob; exact ⟨_, good_next ho hx hob, h⟩
      · exact h.elim
    · exact h.elim
  · rename_i T T' x ho
    unfold opConvert at h
    split at h
    · rename_i td td' ht ht'
      split at h
      · rename_i k' k n hk' hx; obtain ⟨hn, hK⟩ := h; exact ⟨_, good_convInt ho ht ht' hk' hx hn, hK⟩
      · exact h.elim
    · exact h.elim
  · exact h.elim

end
end Go.AV
