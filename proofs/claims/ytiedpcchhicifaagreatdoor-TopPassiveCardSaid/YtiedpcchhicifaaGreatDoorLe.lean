/- Part of the proof. -/
import Derived.Test.YtiedpcchhicifaaGreatDoorLd
set_option linter.unusedSimpArgs false
set_option linter.unusedVariables false
open Go.Result renaming andThen_ok→Ψ
open Nat renaming le_refl→Υ
namespace Go.AV
open Go Go.RowKit
section
variable {C:Ctx} {L0:List AO} {o:Oper} {opn:Operand→AV}
def cg (cs:List AC)(off:Nat)(new:List AC):List AC:=cs.take off++new++cs.drop (off+new.length)
theorem bv.oneCell {L:List AO}{σ:Sig}{w:World}:∀ {cs:List AC} {vs:List Value},bv (RC C L σ w) cs vs→∀ v,v∈vs→v.oneCell'=true
 |[],[],_,_,h=>by cases h
 |_::_,_::_,⟨h1,h2⟩,v,h=>by
  cases h with
  |head=>exact h1.1
  |tail _ h=>exact h2.oneCell v h
 |[],_::_,hh,_,_=>hh.elim
 |_::_,[],hh,_,_=>hh.elim
theorem mq {T:TypeId}{td:TD}(ht:aN C.P T=some td){w:World}{b off:Nat}{cur:Array Value}{e:TypeId}(hb:w.heap[b]? =some (.cells cur e (0,0)))(u:Value)
 (hs:u.cells.size=td.size) (hfit:off+td.size≤cur.size) (h1:∀ v,v∈u.cells.toList→v.oneCell'=true):
 (Instr.storeAt T (.pointer (some ⟨b,off,none⟩)) u).run C.P w= .ok () (w.setRow b (cur.toList.take off++u.cells.toList++cur.toList.drop (off+td.size)).toArray):=by
 have h:=run_storeCells_at C.P b off e u.cells.toList 0 cur w hb (by simp[hs];exact hfit) h1;simp only[Nat.add_zero,Array.length_toList,hs] at h;simp[Instr.storeAt,Instr.sureAddr,storeVar,bT ht,hs,h]
theorem i6 {w:World}{b:Nat}{cur cs:Array Value}{e:TypeId}(hb:w.heap[b]? =some (.cells cur e (0,0))):(w.setRow b cs).heap[b]? =some (.cells cs e (0,0)):=by
 simp[World.setRow,Array.getElem?_modify,hb]
theorem eU {w:World}{b k:Nat}{cs:Array Value}(hk:k≠b):(w.setRow b cs).heap[k]? =w.heap[k]?:=by
 simp[World.setRow,Array.getElem?_modify,Ne.symm hk]
theorem ja (w:World)(b:Nat)(cs:Array Value):(w.setRow b cs).heap.size=w.heap.size:=by simp[World.setRow]
theorem C8 {T T':TypeId}{td:TD}{x y:Operand}{k off:Nat}{cs new:List AC}(ho:o.op= .store T x y)(ht:aN C.P T=some td)(hx':opn x= .one (.ptr k 0 0 off))
 (hob:L0[k]? =some (.vars T' cs)) (hn:cG (opn y)=some new) (hs:new.length=td.size) (hfit:off+td.size≤cs.length):
 bG C L0 o opn {av:=.undef,upd:=[(k,.vars T' (cg cs off new))],fp:=[k]}:=by
 intro L σ w ρ hi hx hfp hlen;have hx1:=hx x (by simp[ho,Op.operands]);have hx2:=m4 hn (hx y (by simp[ho,Op.operands]));rw[hx'] at hx1;have hob':L[k]? =some (.vars T' cs):=by rw[hfp k η];exact hob
 obtain⟨ob,h2,h3,h4⟩:=hx1.2;rw[hob'] at h2;cases h2;obtain⟨b,hb,e1⟩:=h4 rfl rfl;obtain⟨b',vs,e2,e3,e4⟩:=hi.ob k _ hob';rw[e2] at hb;simp only[blk,Option.some.injEq] at hb;subst hb;have hvl:=e4.length;have hnl:=hx2.length;have hrun:=mq ht e3 (off:=off) (ρ y) (by rw[← Array.length_toList,← hnl,hs]) (by simp;omega) hx2.oneCell;simp only[AO.esize,Nat.mul_zero,Nat.zero_add] at e1;have hown:own L σ k b':=⟨_,hob',rfl,by rw[e2];rfl⟩
 simp only[ho,execOp,e1,Sem.run_bind,hrun,Ψ,Sem.run_pure,bI];refine cI (σ':=σ) hi hob' (by rw[ja];exact Υ _) rfl rfl rfl
  (λj hj hno=>eU (λe=>by subst e;exact hno hown)) (λ_ _=>rfl) ⟨Υ _,λ_ _=>⟨rfl,rfl,rfl,trivial⟩⟩
  (λ_ j hj=>.inl ⟨_,hob',rfl,hj⟩) (λhp _=>?_) (λ_ _=>trivial)
 refine⟨b',_,e2,i6 e3,?_⟩;have h5:bv (RC C L σ w) (cg cs off new) (vs.take off++(ρ y).cells.toList++vs.drop (off+td.size)):=by
  unfold cg;refine((e4.take off).append hx2).append ?_;rw[hs];exact e4.drop _
 simpa using h5.mono λc u hcu=>hp c u hcu
theorem uw {T e:TypeId}{td:TD}{x y:Operand}{k ver i off:Nat}{t:Ty}{xs:List t.den}{new:List AC}{d:t.den}(ho:o.op= .store T x y)(ht:aN C.P T=some td)(hx':opn x= .one (.ptr k ver i off))
 (hob:L0[k]? =some (.row t e ver xs)) (hi':i<xs.length) (hn:cG (opn y)=some new) (hs:new.length=td.size) (hfit:off+td.size≤t.size)
 (hd:bq t (cg (acs t (xs.getD i t.dflt)) off new)=some d):
 bG C L0 o opn {av:=.undef,upd:=[(k,.row t e ver (xs.set i d))],fp:=[k]}:=by
 intro L σ w ρ hi hx hfp hlen;have hx1:=hx x (by simp[ho,Op.operands]);have hx2:=m4 hn (hx y (by simp[ho,Op.operands]));rw[hx'] at hx1;have hob':L[k]? =some (.row t e ver xs):=by rw[hfp k η];exact hob
 obtain⟨ob,h2,h3,h4⟩:=hx1.2;rw[hob'] at h2;cases h2;obtain⟨b,hb,e1⟩:=h4 rfl rfl;obtain⟨flat,h5,h6,h7⟩:=hi.ob k _ hob';obtain⟨cap,cur,e2,e3,e4,e5,e6,e7⟩:=ik h5 hb;have hnl:=hx2.length;have hm:(i+1)*t.size≤xs.length*t.size:=Nat.mul_le_mul_right _ hi';rw[Nat.add_mul,Nat.one_mul] at hm;have hm2:xs.length*t.size≤cap*t.size:=Nat.mul_le_mul_right _ e4;have hrun:=mq ht e3 (off:=i*t.size+off) (ρ y) (by rw[← Array.length_toList,← hnl,hs]) ω hx2.oneCell;simp only[AO.esize] at e1;have hown:own L σ k b:=⟨_,hob',rfl,hb⟩
 simp only[ho,execOp,e1,Sem.run_bind,hrun,Ψ,Sem.run_pure,bI];have hfl:flat.length=xs.length*t.size:=h5.1;have hul:(ρ y).cells.toList.length=td.size:=by rw[← hnl,hs]
 refine cI (σ':=σ) hi hob' (by rw[ja];exact Υ _) rfl rfl rfl
  (λj hj hno=>eU (λe=>by subst e;exact hno hown)) (λ_ _=>rfl) ⟨Υ _,λ_ _=>⟨rfl,rfl,rfl,⟨_,rfl⟩⟩⟩
  (λ_ j hj=>.inl ⟨_,hob',rfl,hj⟩) (λhp hav=>?_) (λ_ _=>trivial)
 refine⟨flat.take (i*t.size+off)++(ρ y).cells.toList++flat.drop (i*t.size+off+td.size),?_,h6,?_⟩
 ·refine⟨by simp[hul,hfl];omega,.inr ⟨b,cap,_,by simpa using e2,Nat.zero_le _,i6 e3,by simpa using e4,e5,by simp[hul,e6];omega,?_⟩⟩
  subst e7;simp only[List.length_set];apply List.ext_getElem?;intro j;simp only[List.getElem?_take,List.getElem?_append,List.length_append,List.length_take,Array.length_toList,hul,List.getElem?_drop];have hc:cur.size=cap*t.size:=e6;have m1:min (i*t.size+off) cur.size=i*t.size+off:=ω;have m2:min (i*t.size+off) (min (xs.length*t.size) cur.size)=i*t.size+off:=ω;simp only[m1,m2]
  by_cases h1:j<xs.length*t.size
  ·simp only[h1,if_true]
   by_cases h2:j<i*t.size+off+td.size
   ·simp only[h2,if_true]
   ·simp only[h2,if_false]
    rw[if_pos ω]
  ·simp only[h1,if_false]
   by_cases h2:j<i*t.size+off+td.size
   ·omega
   ·simp only[h2,if_false]
    rw[if_neg ω]
 ·intro j hj
  simp only[List.length_set] at hj;have hm3:(j+1)*t.size≤xs.length*t.size:=Nat.mul_le_mul_right _ hj;rw[Nat.add_mul,Nat.one_mul] at hm3
  by_cases hji:j=i
  ·subst hji
   have hget:(xs.set j d).getD j t.dflt=d:=by simp[List.getD,hj]
   rw[hget];have hd0:=h7 j hj;have h8:bv (RC C L σ w) (cg (acs t (xs.getD j t.dflt)) off new) (((flat.drop (j*t.size)).take t.size).take off++(ρ y).cells.toList++((flat.drop (j*t.size)).take t.size).drop (off+td.size)):=by
    unfold cg;refine(((kW hd0).take off).append hx2).append ?_;rw[hs];exact(kW hd0).drop _
   have h9:=iQ hd (h8.mono λc u hcu=>hp c u hcu);have hcs:((flat.take (j*t.size+off)++(ρ y).cells.toList++flat.drop (j*t.size+off+td.size)).drop (j*t.size)).take t.size=
    ((flat.drop (j*t.size)).take t.size).take off++(ρ y).cells.toList++((flat.drop (j*t.size)).take t.size).drop (off+td.size):=by
    apply List.ext_getElem?;intro q;simp only[List.getElem?_take,List.getElem?_append,List.length_append,List.length_take,hul,List.getElem?_drop,hfl,List.length_drop];rw[Nat.min_eq_left (show j*t.size+off≤xs.length*t.size by omega),Nat.min_eq_left (show t.size≤xs.length*t.size-j*t.size by omega),Nat.min_eq_left (show off≤t.size by omega)]
    by_cases h1:q<t.size
    ·simp only[h1,if_true]
     by_cases h2:q<off
     ·simp only[h2,if_true,show j*t.size+q<j*t.size+off+td.size by omega,show j*t.size+q<j*t.size+off by omega,show q<off+td.size by omega]
     ·by_cases h3:q<off+td.size
      ·simp only[h2,if_false,h3,if_true,show j*t.size+q<j*t.size+off+td.size by omega,show ¬(j*t.size+q<j*t.size+off) by omega]
       congr 1;omega
      ·simp only[h3,if_false,show ¬(j*t.size+q<j*t.size+off+td.size) by omega]
       rw[if_pos ω]
       congr 1;omega
    ·simp only[h1,if_false]
     by_cases h3:q<off+td.size
     ·omega
     ·simp only[h3,if_false]
      rw[if_neg ω]
   rw[hcs];exact h9
  ·have hget:(xs.set i d).getD j t.dflt=xs.getD j t.dflt:=by simp[List.getD,Ne.symm hji]
   rw[hget];have hd0:=h7 j hj;have hcs:((flat.take (i*t.size+off)++(ρ y).cells.toList++flat.drop (i*t.size+off+td.size)).drop (j*t.size)).take t.size=(flat.drop (j*t.size)).take t.size:=by
    apply List.ext_getElem?;intro q;simp only[List.getElem?_take,List.getElem?_append,List.length_append,List.length_take,hul,List.getElem?_drop,hfl];rw[Nat.min_eq_left (show i*t.size+off≤xs.length*t.size by omega)]
    by_cases h1:q<t.size
    ·simp only[h1,if_true]
     rcases Nat.lt_or_gt_of_ne hji with hlt|hgt
     ·have:(j+1)*t.size≤i*t.size:=Nat.mul_le_mul_right _ hlt
      rw[Nat.add_mul,Nat.one_mul] at this;simp only[show j*t.size+q<i*t.size+off+td.size by omega,show j*t.size+q<i*t.size+off by omega,if_true]
     ·have:(i+1)*t.size≤j*t.size:=Nat.mul_le_mul_right _ hgt
      rw[Nat.add_mul,Nat.one_mul] at this;simp only[show ¬(j*t.size+q<i*t.size+off+td.size) by omega,if_false]
      congr 1;omega
    ·simp only[h1,if_false]
   rw[hcs];exact hd0.keep (by rw[ja];exact Υ _) (λq hq ha=>eU (λe=>by subst e;exact ha (.inr ⟨k,hown⟩))) hav
theorem sr {T e:TypeId}{td:TD}{x y:Operand}{k ver i off sz:Nat}{cs new:List AC}(ho:o.op= .store T x y)(ht:aN C.P T=some td)(hx':opn x= .one (.ptr k ver i off))
 (hob:L0[k]? =some (.rowc e sz ver cs)) (hi':(i+1)*sz≤cs.length) (hn:cG (opn y)=some new) (hs:new.length=td.size) (hfit:off+td.size≤sz):
 bG C L0 o opn {av:=.undef,upd:=[(k,.rowc e sz ver (cg cs (i*sz+off) new))],fp:=[k]}:=by
 intro L σ w ρ hi hx hfp hlen;have hx1:=hx x (by simp[ho,Op.operands]);have hx2:=m4 hn (hx y (by simp[ho,Op.operands]));rw[hx'] at hx1;have hob':L[k]? =some (.rowc e sz ver cs):=by rw[hfp k η];exact hob
 obtain⟨ob,h2,h3,h4⟩:=hx1.2;rw[hob'] at h2;cases h2;obtain⟨b,hb,e1⟩:=h4 rfl rfl;obtain⟨flat,n,h5,h6,hl0,h7⟩:=hi.ob k _ hob';obtain⟨cap,cur,e2,e3,e4,e5,e6,e7⟩:=ik h5 hb;have hnl:=hx2.length;have hfl:=h7.length;rw[Nat.add_mul,Nat.one_mul] at hi';have hm2:n*sz≤cap*sz:=Nat.mul_le_mul_right _ e4;have hrun:=mq ht e3 (off:=i*sz+off) (ρ y) (by rw[← Array.length_toList,← hnl,hs]) ω hx2.oneCell;simp only[AO.esize] at e1;have hown:own L σ k b:=⟨_,hob',rfl,hb⟩
 simp only[ho,execOp,e1,Sem.run_bind,hrun,Ψ,Sem.run_pure,bI];have hul:(ρ y).cells.toList.length=td.size:=by rw[← hnl,hs]
 refine cI (σ':=σ) hi hob' (by rw[ja];exact Υ _) rfl rfl rfl
  (λj hj hno=>eU (λe=>by subst e;exact hno hown)) (λ_ _=>rfl) ⟨Υ _,λ_ _=>⟨rfl,rfl,rfl,⟨_,rfl⟩⟩⟩
  (λ_ j hj=>.inl ⟨_,hob',rfl,hj⟩) (λhp hav=>?_) (λ_ _=>trivial)
 refine⟨flat.take (i*sz+off)++(ρ y).cells.toList++flat.drop (i*sz+off+td.size),n,?_,h6,?_,?_⟩
 ·refine⟨by simp[hul];omega,.inr ⟨b,cap,_,by simpa using e2,Nat.zero_le _,i6 e3,by simpa using e4,e5,by simp[hul,e6];omega,?_⟩⟩
  subst e7;apply List.ext_getElem?;intro j;simp only[List.getElem?_take,List.getElem?_append,List.length_append,List.length_take,Array.length_toList,hul,List.getElem?_drop];have hc:cur.size=cap*sz:=e6;have m1:min (i*sz+off) cur.size=i*sz+off:=ω;have m2:min (i*sz+off) (min (n*sz) cur.size)=i*sz+off:=ω;simp only[m1,m2]
  by_cases h1:j<n*sz
  ·simp only[h1,if_true]
   by_cases h2:j<i*sz+off+td.size
   ·simp only[h2,if_true]
   ·simp only[h2,if_false]
    rw[if_pos ω]
  ·simp only[h1,if_false]
   by_cases h2:j<i*sz+off+td.size
   ·omega
   ·simp only[h2,if_false]
    rw[if_neg ω]
 ·unfold cg;simp;omega
 ·have h8:bv (RC C L σ w) (cg cs (i*sz+off) new) (flat.take (i*sz+off)++(ρ y).cells.toList++flat.drop (i*sz+off+td.size)):=by
   unfold cg;refine((h7.take _).append hx2).append ?_;rw[hs];exact h7.drop _
  exact h8.mono λc u hcu=>hp c u hcu
end
end Go.AV
