/- Part of the proof. -/
import Derived.Test.YtiedpcchhicifaaGreatDoorLi
set_option linter.unusedSimpArgs false
set_option linter.unusedVariables false
namespace Go.AV
open Go Go.RowKit
def j5 (P:Program)(f:FuncId):Prop:=∃ fn,P.funcs[f]? =some fn∧(fn.name == "runtime.NumGoroutine")=false∧fn.body.isNone=false
structure MORE (w w':World):Prop where
 size:w.heap.size≤w'.heap.size
 os:w'.os=w.os
 tape:w'.tape=w.tape
 output:w'.output=w.output
 block:∀ b,b<w.heap.size→w'.heap[b]? =w.heap[b]?
theorem MORE.refl (w:World):MORE w w:=⟨Nat.le_refl _,rfl,rfl,rfl,λ_ _=>rfl⟩
def aY (P:Program)(f:FuncId)(args:List AV)(r:AV):Prop:=
 j5 P f∧∀ C L σ w vs,C.P=P→INV C L σ w→bv (RV C L σ w) args vs→
  Calls P f vs.toArray w λe w'=>∃ v,e= .returned v∧MORE w w'∧RV C L σ w' r v
def cS (P:Program)(L0:List AO)(f:FuncId)(args:List AV)(out:Out):Prop:=
 j5 P f∧∀ C L σ w vs,C.P=P→INV C L σ w→bv (RV C L σ w) args vs→(∀ k,k∈out.fp→L[k]? =L0[k]?)→L.length=L0.length→
  Calls P f vs.toArray w λe w'=>∃ v,e= .returned v∧pd C L σ w out v w'
theorem ak {P:Program}{L0:List AO}{f:FuncId}{args:List AV}{r:AV}(h:aY P f args r):cS P L0 f args {av:=r}:=by
 refine⟨h.1,λC L σ w vs hP hi ha _ _=>(h.2 C L σ w vs hP hi ha).mono λe w' hh=>?_⟩;obtain⟨v,e1,hm,hr⟩:=hh;exact⟨v,e1,mg hi hm.size hm.os hm.tape hm.output hm.block λ_ _=>hr⟩
section
variable {C:Ctx} {L0:List AO} {o:Oper} {opn:Operand→AV}
theorem bv.of_map {α β γ:Type}{p:α→γ→Prop}{f:β→α}{g:β→γ}:∀ {l:List β},(∀ x,x∈l→p (f x) (g x))→bv p (l.map f) (l.map g)
 |[],_=>trivial
 |x::_,h=>⟨h x (List.mem_cons_self ..),bv.of_map λy hy=>h y (List.mem_cons_of_mem _ hy)⟩
theorem wE {g:Operand}{as:Array Operand}{ats:Array TypeId}{f:FuncId}{caps:List Cap}{out:Out}(ho:o.op= .call {callee:=.value g,args:=as,argTypes:=ats})(hg:opn g= .one (.fn f caps))
 (hc:cS C.P L0 f (as.toList.map opn++caps.map dG) out):bG C L0 o opn out:=by
 intro L σ w ρ hi hx hfp hlen;have h1:=hx g (by simp[ho,Op.operands,Call.operands]);rw[hg] at h1;obtain⟨vs,e,ha⟩:=h1.2;obtain⟨⟨fn,c1,c2,c3⟩,h2⟩:=hc;have h3:bv (RV C L σ w) (as.toList.map opn) (as.toList.map ρ):=bv.of_map λx hxm=>hx x (by simp[ho,Op.operands,Call.operands];exact .inr (Array.mem_toList_iff.1 hxm));have h4:bv (RV C L σ w) (caps.map dG) vs:=by
  have:∀ (caps:List Cap) (vs:List Value),bv (qP C L σ w) caps vs→bv (RV C L σ w) (caps.map dG) vs:=by
   intro caps
   induction caps with
   |nil=>intro vs h;cases vs with|nil=>trivial|cons _ _=>exact h.elim
   |cons k caps ih=>
    intro vs h
    cases vs with
    |nil=>exact h.elim
    |cons v vs=>exact⟨yG.2 h.1,ih vs h.2⟩
  exact this caps vs ha
 have h5:=h2 C L σ w _ rfl hi (h3.append h4) hfp hlen;have hb:fn.body.isNone=false:=c3;have harr:(as.toList.map ρ++vs).toArray=as.map ρ++vs.toArray:=by
  apply Array.ext';simp
 rw[harr] at h5;simp only[ho,execOp,resolve,Deferred.ofValue,e,Sem.run_bind,Sem.run_pure,Result.andThen_ok,invoke,callFunc,run_program,c1,c2,Bool.false_eq_true,if_false,hb,bI,Array.empty_append];refine h5.mono λe' w' hh=>?_;obtain⟨v,rfl,hd⟩:=hh;exact hd
end
end Go.AV
