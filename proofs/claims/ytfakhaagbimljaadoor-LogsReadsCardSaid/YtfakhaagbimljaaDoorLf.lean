/- The evaluator's operations, third part: arithmetic, aggregates, slices, len, append. -/
import Derived.Test.YtfakhaagbimljaaDoorLe
set_option linter.unusedSimpArgs false
set_option linter.unusedVariables false
namespace Go.AV
open Go Go.RowKit

def inK (k : IntKind) (n : Int) : Prop := k.min ≤ n ∧ n ≤ k.max
theorem cL (n : Int) : inK .i64 n ↔ -9223372036854775808 ≤ n ∧ n ≤ 9223372036854775807 := by
  simp [inK, IntKind.min, IntKind.max, IntKind.signed, IntKind.bits]
theorem f9 {k : IntKind} {n : Int} (h : inK k n) : k.wrap n = n := by
  unfold inK at h
  cases k <;> simp [IntKind.min, IntKind.max, IntKind.signed, IntKind.bits] at h <;> simp only [IntKind.wrap, IntKind.signed, IntKind.bits, Bool.true_and, Bool.false_and, if_false, Bool.false_eq_true] <;> (try (split <;> rename_i hh <;> simp at hh)) <;> (try simp) <;> omega

section
variable {C : Ctx} {L0 : List AO} {o : Oper} {opn : Operand → AV}

def uW (k : IntKind) (x y : Int) : Int := k.wrap (BitVec.ofInt k.bits x &&& BitVec.ofInt k.bits y).toNat
def bj (op : BinOp) (k : IntKind) (x y : Int) : Option (Prop × AV) :=
  match op with
  | .add => some (inK k (x + y), .one (.int k (x + y)))
  | .sub => some (inK k (x - y), .one (.int k (x - y)))
  | .mul => some (inK k (x * y), .one (.int k (x * y)))
  | .quo => some (y ≠ 0 ∧ inK k (x.tdiv y), .one (.int k (x.tdiv y)))
  | .rem => some (y ≠ 0, .one (.int k (x.tmod y)))
  | .and => some (True, .one (.int k (uW k x y)))
  | .shr => some (0 ≤ y ∧ y < 8, .one (.int k (x / 2 ^ y.toNat)))
  | .eql => some (True, .one (.bool (decide (x = y))))
  | .neq => some (True, .one (.bool (!decide (x = y))))
  | .lss => some (True, .one (.bool (decide (x < y))))
  | .leq => some (True, .one (.bool (decide (x ≤ y))))
  | .gtr => some (True, .one (.bool (decide (y < x))))
  | .geq => some (True, .one (.bool (decide (y ≤ x))))
  | _ => none

theorem cH {op : BinOp} {t : TypeId} {x y : Operand} {a b : Value} (ha : (match a with | .nilIface | .agg _ => false | _ => true) = true) (w : World) : (eqGuard op t x y a b).run C.P w = .ok () w := by
  unfold eqGuard
  cases op <;> simp <;> cases a <;> simp_all

theorem ow {op : BinOp} {T Ty' : TypeId} {x y : Operand} {k : IntKind} {a b : Int} {p : Prop} {v : AV} (ho : o.op = .binOp op T x y Ty') (hx' : opn x = .one (.int k a)) (hy' : opn y = .one (.int k b))
    (hr : bj op k a b = some (p, v)) (hp : p) : aT C L0 o opn { av := v } := by
  intro L σ w ρ hi hx hfp hlen
  have hx1 := hx x (by simp [ho, Op.operands])
  have hx2 := hx y (by simp [ho, Op.operands])
  rw [hx'] at hx1
  rw [hy'] at hx2
  have e1 : ρ x = .int k a := hx1.2
  have e2 : ρ y = .int k b := hx2.2
  have hg := cH (C := C) (op := op) (t := T) (x := x) (y := y) (a := .int k a) (b := .int k b) rfl w
  simp only [ho, execOp, e1, e2, Sem.run_bind, hg, Result.andThen_ok]
  unfold bj at hr
  cases op <;> simp only [Option.some.injEq, Prod.mk.injEq, reduceCtorEq] at hr <;> obtain ⟨rfl, rfl⟩ := hr <;>
    simp only [binOp, ne_eq, not_true_eq_false, if_false, Op.intArith, Op.intCmp, Op.intDiv, Op.intBits, Sem.run_pure, Result.andThen_ok, aV]
  case and => exact aH hi ⟨rfl, rfl⟩
  case shr =>
    have hm : min b.toNat k.bits = b.toNat := Nat.min_eq_left (by have := hp.2; cases k <;> simp only [IntKind.bits] <;> omega)
    simp only [Op.shift, if_neg (show ¬ b < 0 by omega), hm, Sem.run_pure, Result.andThen_ok]
    rw [Int.fdiv_eq_ediv_of_nonneg _ (by have : (0 : Int) < 2 ^ b.toNat := Int.pow_pos (by decide); omega)]
    exact aH hi ⟨rfl, rfl⟩
  case add => rw [f9 hp]; exact aH hi ⟨rfl, rfl⟩
  case sub => rw [f9 hp]; exact aH hi ⟨rfl, rfl⟩
  case mul => rw [f9 hp]; exact aH hi ⟨rfl, rfl⟩
  case quo => rw [if_neg hp.1]; simp only [Sem.run_pure, Result.andThen_ok]; rw [f9 hp.2]; exact aH hi ⟨rfl, rfl⟩
  case rem => rw [if_neg hp]; simp only [Sem.run_pure, Result.andThen_ok]; exact aH hi ⟨rfl, rfl⟩
  case eql => exact aH hi ⟨rfl, rfl⟩
  case neq => exact aH hi ⟨rfl, rfl⟩
  case lss => exact aH hi ⟨rfl, rfl⟩
  case leq => exact aH hi ⟨rfl, rfl⟩
  case gtr => exact aH hi ⟨rfl, rfl⟩
  case geq => exact aH hi ⟨rfl, rfl⟩

theorem iE {T Ty' : TypeId} {td : TD} {x y : Operand} {a b : Bool} {neg : Bool} (ho : o.op = .binOp (if neg then .neq else .eql) T x y Ty') (ht : aE C.P T = some td) (hk : td.k = .bool) (hx' : opn x = .one (.bool a)) (hy' : opn y = .one (.bool b)) :
    aT C L0 o opn { av := .one (.bool (if neg then !decide (a = b) else decide (a = b))) } := by
  intro L σ w ρ hi hx hfp hlen
  have hx1 := hx x (by simp [ho, Op.operands])
  have hx2 := hx y (by simp [ho, Op.operands])
  rw [hx'] at hx1
  rw [hy'] at hx2
  have e1 : ρ x = .bool a := hx1.2
  have e2 : ρ y = .bool b := hx2.2
  have hg := cH (C := C) (op := if neg then .neq else .eql) (t := T) (x := x) (y := y) (a := .bool a) (b := .bool b) rfl w
  have hu : C.P.underlying T = some .bool := by
    obtain ⟨d, hd, hkd, hu⟩ := aX ht w
    rw [hk] at hkd
    have : d = .bool := by cases d <;> simp [ex] at hkd; rfl
    rw [hu, this]
  have he : (Op.equal T (.bool a) (.bool b)).run C.P w = .ok (decide (a = b)) w := by
    rw [run_equal_bool w T a b hu]
    cases a <;> cases b <;> rfl
  simp only [ho, execOp, e1, e2, Sem.run_bind, hg, Result.andThen_ok]
  cases neg
  · simp only [Bool.false_eq_true, if_false, binOp, Sem.run_bind, he, Result.andThen_ok, Sem.run_pure, aV]
    exact aH hi ⟨rfl, rfl⟩
  · simp only [if_true, binOp, Sem.run_bind, he, Result.andThen_ok, Sem.run_pure, aV]
    exact aH hi ⟨rfl, rfl⟩

def cw (op : BinOp) (a b : List UInt8) : Option (Prop × AC) :=
  match op with
  | .add => some (List.length a + List.length b ≤ 9223372036854775807, .str (a ++ b))
  | .eql => some (True, .bool (decide (a = b)))
  | .neq => some (True, .bool (!decide (a = b)))
  | _ => none
theorem oC (a b : List UInt8) : (a == b) = decide (a = b) := by by_cases h : a = b <;> simp [h]
theorem gW (l : List UInt8) : (⟨l.toArray⟩ : ByteArray).toList = l := by rw [ByteArray.toList_eq]
theorem qS {op : BinOp} {T Ty' : TypeId} {x y : Operand} {a b : List UInt8} {p : Prop} {c : AC} (ho : o.op = .binOp op T x y Ty') (hx' : opn x = .one (.str a)) (hy' : opn y = .one (.str b)) (hs : cw op a b = some (p, c)) (hp : p) :
    aT C L0 o opn { av := .one c } := by
  intro L σ w ρ hi hx hfp hlen
  have hx1 := hx x (by simp [ho, Op.operands])
  have hx2 := hx y (by simp [ho, Op.operands])
  rw [hx'] at hx1
  rw [hy'] at hx2
  have e1 : ρ x = .string ⟨a.toArray⟩ := hx1.2
  have e2 : ρ y = .string ⟨b.toArray⟩ := hx2.2
  have hg := cH (C := C) (op := op) (t := T) (x := x) (y := y) (a := .string ⟨a.toArray⟩) (b := .string ⟨b.toArray⟩) rfl w
  simp only [ho, execOp, e1, e2, Sem.run_bind, hg, Result.andThen_ok]
  cases op <;> simp only [cw, Option.some.injEq, Prod.mk.injEq, reduceCtorEq] at hs
  case add =>
    obtain ⟨rfl, rfl⟩ := hs
    have hsz : ¬ (((⟨a.toArray⟩ : ByteArray).size + (⟨b.toArray⟩ : ByteArray).size : Nat) : Int) > IntKind.i64.max := by
      have : (IntKind.i64.max : Int) = 9223372036854775807 := by decide
      rw [this]
      simp only [ByteArray.size, List.size_toArray]
      omega
    have hap : ((⟨a.toArray⟩ : ByteArray) ++ ⟨b.toArray⟩) = ⟨(a ++ b).toArray⟩ := by
      apply ByteArray.ext
      rw [ByteArray.data_append]
      simp
    simp only [binOp, Op.stringOp, hsz, if_false, hap, Sem.run_pure, aV]
    exact aH hi ⟨rfl, rfl⟩
  case eql =>
    obtain ⟨rfl, rfl⟩ := hs
    simp only [binOp, Op.stringOp, gW, oC, Sem.run_pure, aV]
    exact aH hi ⟨rfl, rfl⟩
  case neq =>
    obtain ⟨rfl, rfl⟩ := hs
    simp only [binOp, Op.stringOp, gW, oC, Sem.run_pure, aV]
    exact aH hi ⟨rfl, rfl⟩

theorem lW {T T' : TypeId} {td td' : TD} {x : Operand} {k k' : IntKind} {n : Int} (ho : o.op = .convert T T' x) (ht : aE C.P T = some td) (ht' : aE C.P T' = some td') (hk' : td'.k = .int k') (hx' : opn x = .one (.int k n)) (hn : inK k' n) :
    aT C L0 o opn { av := .one (.int k' n) } := by
  intro L σ w ρ hi hx hfp hlen
  have hx1 := hx x (by simp [ho, Op.operands])
  rw [hx'] at hx1
  have e1 : ρ x = .int k n := hx1.2
  obtain ⟨d, hd, hkd, hu⟩ := aX ht w
  obtain ⟨d', hd', hkd', hu'⟩ := aX ht' w
  rw [hk'] at hkd'
  have : d' = .int k' := by cases d' <;> simp [ex] at hkd'; rw [hkd']
  subst this
  simp only [ho, execOp, e1, convert, Sem.run_bind, hd, hd', Result.andThen_ok, Conv.intToInt, f9 hn, Sem.run_pure, aV]
  exact aH hi ⟨rfl, rfl⟩

theorem t8 {P : Program} (w : World) (d : Nat) (t e : TypeId) (a : Option Addr) (l c : Nat) (h : P.underlying t = some (.slice e)) : (Op.equalIn (d + 1) t (.slice a l c) (.slice none 0 0)).run P w = .ok a.isNone w := by
  cases a <;> simp [Op.equalIn, run_underlying h]
theorem pt {P : Program} (w : World) (t e : TypeId) (a : Option Addr) (l c : Nat) (h : P.underlying t = some (.slice e)) : (Op.equal t (.slice a l c) (.slice none 0 0)).run P w = .ok a.isNone w := t8 w 9999 t e a l c h

theorem di {T Ty' e : TypeId} {td : TD} {x y : Operand} {c : AC} {b : Bool} {neg : Bool} (ho : o.op = .binOp (if neg then .neq else .eql) T x y Ty') (ht : aE C.P T = some td) (hk : td.k = .slice e) (hx' : opn x = .one c) (hy' : opn y = .one .nils)
    (hc : (c = .nils ∧ b = true) ∨ (c = .emp ∧ b = false) ∨ (∃ t xs, c = .list t xs ∧ 0 < List.length xs ∧ b = false)) :
    aT C L0 o opn { av := .one (.bool (if neg then !b else b)) } := by
  intro L σ w ρ hi hx hfp hlen
  have hx1 := hx x (by simp [ho, Op.operands])
  have hx2 := hx y (by simp [ho, Op.operands])
  rw [hx'] at hx1
  rw [hy'] at hx2
  have e2 : ρ y = .slice none 0 0 := hx2.2
  have hu : C.P.underlying T = some (.slice e) := by
    obtain ⟨d, hd, hkd, hu⟩ := aX ht w
    rw [hk] at hkd
    have := be hkd; rw [hu, this]
  have he : (∃ A n cc, ρ x = .slice A n cc) ∧ (Op.equal T (ρ x) (ρ y)).run C.P w = .ok b w := by
    rcases hc with ⟨rfl, rfl⟩ | ⟨rfl, rfl⟩ | ⟨t, xs, rfl, h0, rfl⟩
    · have e1 : ρ x = .slice none 0 0 := hx1.2
      exact ⟨⟨_, _, _, e1⟩, by rw [e1, e2, pt w T e _ _ _ hu]; rfl⟩
    · obtain ⟨a, cc, e1, _⟩ := hx1.2
      exact ⟨⟨_, _, _, e1⟩, by rw [e1, e2, pt w T e _ _ _ hu]; rfl⟩
    · obtain ⟨A, cc, e1, _, _, h3⟩ := hx1.2
      simp only [List.cons.injEq, and_true] at e1
      obtain ⟨b', o', rfl, _⟩ := h3 h0
      exact ⟨⟨_, _, _, e1⟩, by rw [e1, e2, pt w T e _ _ _ hu]; rfl⟩
  obtain ⟨⟨A, n, cc, e1⟩, he⟩ := he
  rw [e1, e2] at he
  have hg := cH (C := C) (op := if neg then .neq else .eql) (t := T) (x := x) (y := y) (a := .slice A n cc) (b := .slice none 0 0) rfl w
  simp only [ho, execOp, e1, e2, Sem.run_bind, hg, Result.andThen_ok]
  cases neg
  · simp only [Bool.false_eq_true, if_false, binOp, Sem.run_bind, he, Result.andThen_ok, Sem.run_pure, aV]
    exact aH hi ⟨rfl, rfl⟩
  · simp only [if_true, binOp, Sem.run_bind, he, Result.andThen_ok, Sem.run_pure, aV]
    exact aH hi ⟨rfl, rfl⟩

theorem qZ {T : TypeId} {x : Operand} {a : Bool} (ho : o.op = .unOp .not T x) (hx' : opn x = .one (.bool a)) : aT C L0 o opn { av := .one (.bool (!a)) } := by
  intro L σ w ρ hi hx hfp hlen
  have hx1 := hx x (by simp [ho, Op.operands])
  rw [hx'] at hx1
  have e1 : ρ x = .bool a := hx1.2
  simp only [ho, execOp, e1, Op.unary, Sem.run_bind, Sem.run_pure, Result.andThen_ok, aV]
  exact aH hi ⟨rfl, rfl⟩

theorem lX {x : Operand} {i : Nat} {vs : List AV} {v : AV} (ho : o.op = .extract x i) (hx' : opn x = .tup vs) (hv : vs[i]? = some v) (hnt : (match v with | .tup _ => false | _ => true) = true) : aT C L0 o opn { av := v } := by
  intro L σ w ρ hi hx hfp hlen
  have hx1 := hx x (by simp [ho, Op.operands])
  rw [hx'] at hx1
  obtain ⟨us, e, ha⟩ := (hx1 : RV C L σ w (.tup vs) (ρ x))
  obtain ⟨u, hu, hr⟩ := ha.at_ hv
  simp only [ho, execOp, e, Instr.extract, List.getElem?_toArray, hu, Sem.run_bind, Sem.run_pure, Result.andThen_ok, aV]
  refine aH hi ?_
  cases v <;> first | exact hr | (simp at hnt)

def bQ : Cap → AV
  | .ref k => .one (.ptr k 0 0 0)
  | .pat t d => .one (.pat t d 0)
  | .pfn f ds => .one (.pfn f ds)
theorem md {L : List AO} {σ : Sig} {w : World} {c : Cap} {u : Value} : RV C L σ w (bQ c) u ↔ jL C L σ w c u := by
  cases c <;> exact Iff.rfl

theorem lS {f : FuncId} {caps : Array Operand} {ks : List Cap} (ho : o.op = .makeFunc (.func f) #[] caps) (hc : caps.toList.map opn = ks.map bQ) : aT C L0 o opn { av := .one (.fn f ks) } := by
  intro L σ w ρ hi hx hfp hlen
  have h1 : ∀ (l : List Operand) (ks : List Cap), (∀ x, x ∈ l → RV C L σ w (opn x) (ρ x)) → l.map opn = ks.map bQ → aR (jL C L σ w) ks (l.map ρ) := by
    intro l
    induction l with
    | nil => intro ks _ h; cases ks with | nil => trivial | cons _ _ => cases h
    | cons x l ih =>
      intro ks hr h
      cases ks with
      | nil => cases h
      | cons k ks =>
        simp only [List.map_cons, List.cons.injEq] at h
        refine ⟨?_, ih ks (fun y hy => hr y (List.mem_cons_of_mem _ hy)) h.2⟩
        have := hr x (List.mem_cons_self ..)
        rw [h.1] at this
        exact md.1 this
  simp only [ho, execOp, Instr.makeFunc, List.map_toArray, List.map_nil, Sem.run_bind, Sem.run_pure, Result.andThen_ok, aV]
  refine aH hi ⟨rfl, caps.toList.map ρ, ?_, h1 _ _ (fun x hxm => hx x (by simp [ho, Op.operands]; exact Array.mem_toList_iff.1 hxm)) hc⟩
  congr 1
  apply Array.ext'
  simp

theorem og {T ft : TypeId} {td tf : TD} {x : Operand} {fs : List (Nat × TypeId × Nat)} {f off sz : Nat} {cs : List AC} {v : AV} (ho : o.op = .field T x f) (ht : aE C.P T = some td) (hk : td.k = .struct fs)
    (hf : fs[f]? = some (off, ft, sz)) (htf : aE C.P ft = some tf) (hx' : opn x = .agg cs) (hr : bC tf cs off = some v) : aT C L0 o opn { av := v } := by
  intro L σ w ρ hi hx hfp hlen
  have hx1 := hx x (by simp [ho, Op.operands])
  rw [hx'] at hx1
  obtain ⟨vs, e, ha⟩ := (hx1 : RV1 C L σ w (.agg cs) (ρ x))
  obtain ⟨d, hd, hkd, hu⟩ := aX ht w
  rw [hk] at hkd
  obtain ⟨gs, rfl, hgs⟩ := ii hkd
  have hg : ∃ g, gs[f]? = some g ∧ g.offset = off ∧ g.type = ft := by
    rw [← hgs, List.getElem?_map] at hf
    cases hgf : gs.toList[f]? with
    | none => rw [hgf] at hf; cases hf
    | some g =>
      rw [hgf] at hf
      simp only [Option.map_some, Option.some.injEq, Prod.mk.injEq] at hf
      exact ⟨g, by simpa using hgf, hf.1, hf.2.1⟩
  obtain ⟨g, h1, h2, h3⟩ := hg
  subst h2 h3
  unfold bC at hr
  have hrun : ∃ u, (Instr.field T (.agg vs.toArray) f).run C.P w = .ok u w ∧ RV C L σ w v u := by
    simp only [Instr.field, Sem.run_bind, hd, Result.andThen_ok, h1, asAgg, Sem.run_pure, part, i3 htf w]
    split at hr
    · rename_i hka
      split at hr
      · rename_i hsz
        simp only [Option.some.injEq] at hr; subst hr
        simp only [hka, if_true, Sem.run_bind, aZ htf w, Result.andThen_ok, Sem.run_pure]
        refine ⟨_, rfl, (vs.drop g.offset).take tf.size, ?_, (ha.drop _).take _⟩
        rw [List.extract_toArray, List.extract_eq_take_drop]
        simp
      · cases hr
    · rename_i hka
      split at hr
      · rename_i c hc
        simp only [Option.some.injEq] at hr; subst hr
        obtain ⟨u, hu, hrc⟩ := ha.at_ hc
        simp only [hka, Bool.false_eq_true, if_false, List.getElem?_toArray, hu, Sem.run_pure]
        exact ⟨u, rfl, hrc⟩
      · cases hr
  obtain ⟨u, h4, h5⟩ := hrun
  simp only [ho, execOp, e, Sem.run_bind, h4, Result.andThen_ok, Sem.run_pure, aV]
  exact aH hi h5

theorem jt {T e : TypeId} {td te : TD} {x ix : Operand} {n : Nat} {cs : List AC} {k : IntKind} {i : Int} {v : AV} (ho : o.op = .index T x ix) (ht : aE C.P T = some td) (hk : td.k = .array n e) (hte : aE C.P e = some te)
    (hx' : opn x = .agg cs) (hi' : opn ix = .one (.int k i)) (h0 : 0 ≤ i) (h1 : i < n) (hr : bC te cs (i.toNat * te.size) = some v) : aT C L0 o opn { av := v } := by
  intro L σ w ρ hi hx hfp hlen
  have hx1 := hx x (by simp [ho, Op.operands])
  have hx2 := hx ix (by simp [ho, Op.operands])
  rw [hx'] at hx1
  rw [hi'] at hx2
  have e2 : ρ ix = .int k i := hx2.2
  obtain ⟨vs, e, ha⟩ := (hx1 : RV1 C L σ w (.agg cs) (ρ x))
  obtain ⟨d, hd, hkd, hu⟩ := aX ht w
  rw [hk] at hkd
  have := gJ hkd
  subst this
  unfold bC at hr
  have hrun : ∃ u, (Instr.index T (.agg vs.toArray) (.int k i)).run C.P w = .ok u w ∧ RV C L σ w v u := by
    have hif : (0 ≤ i ∧ i < (n : Int)) := ⟨h0, h1⟩
    simp only [Instr.index, asIntOf, Sem.run_bind, Sem.run_pure, hd, Result.andThen_ok, hif, and_self, if_true, aZ hte w, part, i3 hte w]
    split at hr
    · rename_i hka
      split at hr
      · rename_i hsz
        simp only [Option.some.injEq] at hr; subst hr
        simp only [hka, if_true, Sem.run_bind, aZ hte w, Result.andThen_ok, Sem.run_pure]
        refine ⟨_, rfl, (vs.drop (i.toNat * te.size)).take te.size, ?_, (ha.drop _).take _⟩
        rw [List.extract_toArray, List.extract_eq_take_drop]
        simp
      · cases hr
    · rename_i hka
      split at hr
      · rename_i c hc
        simp only [Option.some.injEq] at hr; subst hr
        obtain ⟨u, hu, hrc⟩ := ha.at_ hc
        simp only [hka, Bool.false_eq_true, if_false, List.getElem?_toArray, hu, Sem.run_pure]
        exact ⟨u, rfl, hrc⟩
      · cases hr
  obtain ⟨u, h4, h5⟩ := hrun
  simp only [ho, execOp, e, e2, Sem.run_bind, h4, Result.andThen_ok, Sem.run_pure, aV]
  exact aH hi h5

theorem jV {T : TypeId} {td : TD} {x ix : Operand} {s : List UInt8} {k : IntKind} {i : Int} (ho : o.op = .index T x ix) (ht : aE C.P T = some td) (hk : td.k = .str)
    (hx' : opn x = .one (.str s)) (hi' : opn ix = .one (.int k i)) (h0 : 0 ≤ i) (h1 : i < s.length) : aT C L0 o opn { av := .one (.int .u8 ((s.getD i.toNat 0).toNat : Int)) } := by
  intro L σ w ρ hi hx hfp hlen
  have hx1 := hx x (by simp [ho, Op.operands])
  have hx2 := hx ix (by simp [ho, Op.operands])
  rw [hx'] at hx1
  rw [hi'] at hx2
  have e1 : ρ x = .string ⟨s.toArray⟩ := hx1.2
  have e2 : ρ ix = .int k i := hx2.2
  obtain ⟨d, hd, hkd, hu⟩ := aX ht w
  rw [hk] at hkd
  have := iA hkd; subst this
  have hlt : i.toNat < s.length := by omega
  have hget : (⟨s.toArray⟩ : ByteArray)[i.toNat]? = some (s.getD i.toNat 0) := by
    have hsz : i.toNat < (⟨s.toArray⟩ : ByteArray).size := by simpa [ByteArray.size] using hlt
    rw [getElem?_pos (⟨s.toArray⟩ : ByteArray) i.toNat hsz]
    congr 1
    simp [List.getD, hlt]
    rfl
  simp only [ho, execOp, e1, e2, Instr.index, asIntOf, Sem.run_bind, Sem.run_pure, hd, Result.andThen_ok, h0, if_true, hget, aV]
  exact aH hi ⟨rfl, rfl⟩

def bH (L : List AO) : AC → Option Nat
  | .list _ xs => some (List.length xs)
  | .nils => some 0
  | .emp => some 0
  | .str s => some s.length
  | .row k ver => match L[k]? with
    | some (.row _ _ v xs) => if ver = v then some xs.length else none
    | _ => none
  | .rwc k ver => match L[k]? with
    | some (.rowc _ sz v cs) => if ver = v then some (cs.length / sz) else none
    | _ => none
  | _ => none
def cg : KD → AC → Bool
  | .slice _, .str _ => false
  | .slice _, _ => true
  | .str, .str _ => true
  | _, _ => false
def dh : AC → List Nat
  | .row k _ => [k]
  | .rwc k _ => [k]
  | _ => []

theorem rF {T : TypeId} {td : TD} {x : Operand} {ats : Array TypeId} {c : AC} {n : Nat} (ho : o.op = .call { callee := .builtin .len, args := #[x], argTypes := ats }) (ha : ats[0]? = some T) (ht : aE C.P T = some td)
    (hk : cg td.k c = true) (hx' : opn x = .one c) (hn : bH L0 c = some n) : aT C L0 o opn { av := .one (.int .i64 n), fp := dh c } := by
  intro L σ w ρ hi hx hfp hlen
  have hx1 := hx x (by simp [ho, Op.operands, Call.operands])
  rw [hx'] at hx1
  obtain ⟨d, hd, hkd, hu⟩ := aX ht w
  have hrun : (Builtin.len_ ats o.type #[ρ x]).run C.P w = .ok (.int .i64 n) w := by
    cases c with
    | str s =>
      have e1 : ρ x = .string ⟨s.toArray⟩ := hx1.2
      have hks : td.k = .str := by revert hk; cases td.k <;> simp [cg]
      rw [hks] at hkd
      have := iA hkd; subst this
      simp only [bH, Option.some.injEq] at hn; subst hn
      have hsz : (⟨s.toArray⟩ : ByteArray).size = s.length := rfl
      simp [Builtin.len_, ha, hd, e1, goInt, hsz]
    | list t xs =>
      have hks : ∃ e, td.k = .slice e := by revert hk; cases td.k <;> simp [cg]
      obtain ⟨e, hks⟩ := hks
      rw [hks] at hkd
      have := be hkd; subst this
      obtain ⟨A, cc, e1, _⟩ := hx1.2
      simp only [List.cons.injEq, and_true] at e1
      simp only [bH, Option.some.injEq] at hn; subst hn
      simp [Builtin.len_, ha, hd, e1, goInt]
    | nils =>
      have hks : ∃ e, td.k = .slice e := by revert hk; cases td.k <;> simp [cg]
      obtain ⟨e, hks⟩ := hks
      rw [hks] at hkd
      have := be hkd; subst this
      have e1 : ρ x = .slice none 0 0 := hx1.2
      simp only [bH, Option.some.injEq] at hn; subst hn
      simp [Builtin.len_, ha, hd, e1, goInt]
    | emp =>
      have hks : ∃ e, td.k = .slice e := by revert hk; cases td.k <;> simp [cg]
      obtain ⟨e, hks⟩ := hks
      rw [hks] at hkd
      have := be hkd; subst this
      obtain ⟨A, cc, e1, _⟩ := hx1.2
      simp only [bH, Option.some.injEq] at hn; subst hn
      simp [Builtin.len_, ha, hd, e1, goInt]
    | row k ver =>
      have hks : ∃ e, td.k = .slice e := by revert hk; cases td.k <;> simp [cg]
      obtain ⟨e, hks⟩ := hks
      rw [hks] at hkd
      have := be hkd; subst this
      simp only [bH] at hn
      split at hn
      · rename_i t' e' v xs hob
        split at hn
        · rename_i hv
          simp only [Option.some.injEq] at hn; subst hn hv
          have hob' : L[k]? = some (.row t' e' ver xs) := by rw [hfp k (by simp [dh])]; exact hob
          obtain ⟨ob, h2, h3, h4⟩ := hx1.2
          rw [hob'] at h2; cases h2
          obtain ⟨_, e1⟩ := h4 rfl rfl
          obtain ⟨flat, h5, h6, h7⟩ := hi.ob k _ hob'
          rcases h5.2 with ⟨e2, h8⟩ | ⟨g, cap, cur, e2, _⟩
          · simp [Builtin.len_, ha, hd, e1, e2, goInt, h8]
          · simp [Builtin.len_, ha, hd, e1, e2, goInt]
        · cases hn
      · cases hn
    | rwc k ver =>
      have hks : ∃ e, td.k = .slice e := by revert hk; cases td.k <;> simp [cg]
      obtain ⟨e, hks⟩ := hks
      rw [hks] at hkd
      have := be hkd; subst this
      simp only [bH] at hn
      split at hn
      · rename_i e' sz v cs hob
        split at hn
        · rename_i hv
          simp only [Option.some.injEq] at hn; subst hn hv
          have hob' : L[k]? = some (.rowc e' sz ver cs) := by rw [hfp k (by simp [dh])]; exact hob
          obtain ⟨ob, h2, h3, h4⟩ := hx1.2
          rw [hob'] at h2; cases h2
          obtain ⟨_, e1⟩ := h4 rfl rfl
          obtain ⟨flat, n', h5, h6, h7, h8⟩ := hi.ob k _ hob'
          have hdv : cs.length / sz = n' := by rw [h7]; exact Nat.mul_div_cancel _ h6
          rw [hdv]
          rcases h5.2 with ⟨e2, h8⟩ | ⟨g, cap, cur, e2, _⟩
          · simp [Builtin.len_, ha, hd, e1, e2, goInt, h8]
          · simp [Builtin.len_, ha, hd, e1, e2, goInt]
        · cases hn
      · cases hn
    | _ => simp [bH] at hn
  simp only [ho, execOp, resolve, invoke, builtin, Sem.run_bind, Sem.run_pure, Result.andThen_ok, List.map_toArray, List.map_cons, List.map_nil, hrun, aV]
  exact aH hi ⟨rfl, rfl⟩

end
end Go.AV
