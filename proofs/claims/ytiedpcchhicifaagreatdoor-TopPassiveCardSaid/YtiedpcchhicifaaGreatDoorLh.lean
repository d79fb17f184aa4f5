/- Part of the proof. -/
import Derived.Test.YtiedpcchhicifaaGreatDoorLg
set_option linter.unusedSimpArgs false
set_option linter.unusedVariables false
open List renaming getElem?_eq_some_iff→Δ
open Go.Result renaming andThen_ok→Ψ
open Go.Sem renaming run_pure→Ω
open Go.Sem renaming run_bind→Φ
open Option.some renaming injEq→Λ
open Nat renaming le_refl→Υ
namespace Go.AV
open Go Go.RowKit
section
variable {C:Ctx} {L0:List AO} {o:Oper} {opn:Operand→AV}
def cu (place:Nat→Option (Nat×Nat))(opn:Operand→AV):List AC→List (Nat×Operand)→Option (List AC)
 |cells,[]=>some cells
 |cells,(i,x)::rest=>match place i,cG (opn x) with
  |some (off,size),some vs=>if vs.length=size∧off+size≤cells.length then cu place opn (cg cells off vs) rest else none
  |_,_=>none
theorem zu (off:Nat):∀ (vs:List Value) (k:Nat) (cells:Array Value),off+k+vs.length≤cells.size→
 ((vs.zipIdx k).foldl (λcs (x:Value×Nat)=>cs.setIfInBounds (off+x.2) x.1) cells).toList=cells.toList.take (off+k)++vs++cells.toList.drop (off+k+vs.length)
 |[],k,cells,h=>by simp
 |v::vs,k,cells,h=>by
  simp only[List.length_cons] at h;simp only[List.zipIdx_cons,List.foldl_cons];rw[zu off vs (k+1) _ (by simp;omega)];apply List.ext_getElem?;intro j;simp only[Array.toList_setIfInBounds,List.getElem?_append,List.length_append,List.length_take,List.length_set,Array.length_toList,List.getElem?_take,List.getElem?_drop,List.getElem?_set,List.length_cons];rw[Nat.min_eq_left ω,Nat.min_eq_left ω]
  by_cases h1:j<off+k
  ·simp only[h1,show j<off+(k+1)+vs.length by omega,show j<off+(k+1) by omega,show ¬(off+k=j) by omega,show j<off+k+(vs.length+1) by omega,if_true,if_false]
  ·by_cases h2:j=off+k
   ·subst h2
    have hlt:off+k<cells.size:=ω;simp[hlt,show off+k<off+(k+1)+vs.length by omega,show off+k<off+(k+1) by omega,show off+k<off+k+(vs.length+1) by omega]
   ·by_cases h3:j<off+k+(vs.length+1)
    ·simp only[h1,h3,show j<off+(k+1)+vs.length by omega,show ¬(j<off+(k+1)) by omega,if_true,if_false]
     have:j-(off+k)=(j-(off+(k+1)))+1:=ω;rw[this];simp
    ·simp only[h3,show ¬(j<off+(k+1)+vs.length) by omega,if_false]
     rw[if_neg ω]
     congr 1;omega
theorem eS {L:List AO}{σ:Sig}{w:World}{ρ:Operand→Value}{place:Nat→Option (Nat×Nat)}:∀ {aU:List (Nat×Operand)} {as cs:List AC} {vs:List Value},
 cu place opn as aU=some cs→(∀ p,p∈aU→RV C L σ w (opn p.2) (ρ p.2))→bv (RC C L σ w) as vs→
 ∃ us,Instr.fill place vs.toArray (aU.map λp=>(p.1,ρ p.2))=some us∧bv (RC C L σ w) cs us.toList
 |[],as,cs,vs,h,_,ha=>by
  simp only[cu,Λ] at h;subst h;exact⟨_,rfl,by simpa using ha⟩
 |(i,x)::rest,as,cs,vs,h,hr,ha=>by
  simp only[cu] at h;split at h
  ·rename_i off size new h1 h2
   split at h
   ·rename_i hc
    obtain⟨hl,hfit⟩:=hc;have hx:=m4 h2 (hr (i,x) (List.mem_cons_self ..));have hn:=hx.length;have hvl:=ha.length;have hsz:(ρ x).cells.size=size:=by rw[← Array.length_toList,← hn,hl]
    have hlen:off+(ρ x).cells.toList.length≤vs.toArray.size:=by rw[Array.length_toList,hsz,List.size_toArray];omega
    have hfold:=zu off (ρ x).cells.toList 0 vs.toArray (by simpa using hlen);have hnew:bv (RC C L σ w) (cg as off new) (vs.take off++(ρ x).cells.toList++vs.drop (off+(ρ x).cells.toList.length)):=by
     unfold cg;rw[← hn];exact((ha.take off).append hx).append (ha.drop _)
    obtain⟨us,hu,hall⟩:=eS h (λp hp=>hr p (List.mem_cons_of_mem _ hp)) hnew;refine⟨us,?_,hall⟩;simp only[List.map_cons,Instr.fill,h1,hsz,List.size_toArray];rw[if_neg (by simp;omega)];rw[← hu]
    congr 1
    apply Array.ext';simp only[Nat.add_zero] at hfold;rw[← Array.foldl_toList,Array.toList_zipIdx];exact hfold
   ·cases h
  ·cases h
def eF (t:Ty):Nat→List AC→Option (List t.den)
 |0,_=>some []
 |n+1,cs=>match bq t (cs.take t.size),eF t n (cs.drop t.size) with
  |some d,some ds=>some (d::ds)
  |_,_=>none
theorem fC {t:Ty}:∀ {n:Nat} {cs:List AC} {ds:List t.den},eF t n cs=some ds→ds.length=n
 |0,_,_,h=>by simp only[eF,Λ] at h;subst h;rfl
 |n+1,cs,ds,h=>by
  simp only[eF] at h;split at h
  ·rename_i d ds' _ h2
   simp only[Λ] at h;subst h;simp[fC h2]
  ·cases h
theorem kh {L:List AO}{σ:Sig}{w:World}{t:Ty}:∀ {n:Nat} {cs:List AC} {ds:List t.den} {vs:List Value},eF t n cs=some ds→bv (RC C L σ w) cs vs→
 ∀ i,i<ds.length→Dat (avd C L σ) w t (ds.getD i t.dflt) ((vs.drop (i*t.size)).take t.size)
 |0,_,_,_,h,_,i,hi=>by simp only[eF,Λ] at h;subst h;cases hi
 |n+1,cs,ds,vs,h,ha,i,hi=>by
  simp only[eF] at h;split at h
  ·rename_i d ds' h1 h2
   simp only[Λ] at h;subst h
   cases i with
   |zero=>
    simp only[Nat.zero_mul,List.drop_zero];exact iQ h1 (ha.take _)
   |succ i=>
    have:=kh h2 (ha.drop t.size) i (by simpa using hi);rw[List.drop_drop] at this;have e:(i+1)*t.size=t.size+i*t.size:=by rw[Nat.add_mul,Nat.one_mul,Nat.add_comm]
    rw[e];exact this
  ·cases h
def rep (cs:List AC):Nat→List AC
 |0=>[]
 |n+1=>cs++rep cs n
theorem fM (cs:List AC)(n:Nat):(rep cs n).length=n*cs.length:=by
 induction n with
 |zero=>simp[rep]
 |succ n ih=>simp[rep,ih,Nat.add_mul,Nat.add_comm]
theorem cX (z:List Value)(hz:0<z.length):∀ n,(List.range (n*z.length)).map (λj=>z.toArray[j % z.length]!)=(List.replicate n z).flatten
 |0=>by simp
 |n+1=>by
  rw[List.replicate_succ',List.flatten_append,← cX z hz n,Nat.add_mul,Nat.one_mul,List.range_add,List.map_append]
  congr 1
  rw[List.map_map];simp only[List.flatten_cons,List.flatten_nil,List.append_nil];apply List.ext_getElem?;intro j;rw[List.getElem?_map]
  by_cases hj:j<z.length
  ·rw[List.getElem?_range hj]
   have:(n*z.length+j) % z.length=j:=by rw[Nat.add_comm,Nat.add_mul_mod_self_right,Nat.mod_eq_of_lt hj]
   simp[this,hj]
  ·rw[List.getElem?_eq_none (by simpa using Nat.le_of_not_lt hj),List.getElem?_eq_none (Nat.le_of_not_lt hj)];rfl
theorem jN {L:List AO}{σ:Sig}{w:World}{cs:List AC}{z:List Value}(h:bv (RC C L σ w) cs z):∀ n,bv (RC C L σ w) (rep cs n) (List.replicate n z).flatten
 |0=>trivial
 |n+1=>by
  simp only[rep,List.replicate_succ,List.flatten_cons];exact h.append (jN h n)
theorem sh {T e:TypeId}{td te:TD}{t:Ty}{n:Nat}{aU:Array (Nat×Operand)}{cs:List AC}{xs:List t.den}(ho:o.op= .buildSlice T n aU)(ht:aN C.P T=some td)(hk:td.k= .slice e)(hte:aN C.P e=some te)
 (hsz:te.size=t.size) (hz:te.zero.length=te.size) (h0:0<te.size) (hsm:n*te.size≤16777216) (hf:cu (λi=>some (i*te.size,te.size)) opn (rep te.zero n) aU.toList=some cs) (hc:eF t n cs=some xs):
 bG C L0 o opn {av:=.one (.list t xs)}:=by
 intro L σ w ρ hi hx hfp _;obtain⟨d,hd,hkd,hu⟩:=bS ht w;rw[hk] at hkd;have:=bW hkd;subst this;obtain⟨z,hz1,hz2⟩:=eT hte w;have hrz:=cz (C:=C) (L:=L) (σ:=σ) (w:=w) hz2;have hzl:z.cells.toList.length=te.size:=by rw[← hrz.length,hz]
 obtain⟨us,hu1,hu2⟩:=eS (C:=C) (opn:=opn) (L:=L) (σ:=σ) (w:=w) (ρ:=ρ) (place:=λi=>some (i*te.size,te.size)) hf
  (λp hp=>hx p.2 (by simp only[ho,Op.operands,List.mem_toArray];exact List.mem_map.2 ⟨p,by simpa using hp,rfl⟩)) (jN hrz n)
 have hul:=hu2.length;have hxl:=fC hc;have hml:n≤n*te.size:=Nat.le_mul_of_pos_right n h0;have hrun:(Instr.buildSlice T n (aU.map fun(i,x)=>(i,ρ x))).run C.P w= .ok (.slice (some ⟨w.heap.size,0,none⟩) n n) (w.alloc (.cells us e)):=by
  have h1:¬(n*te.size>16777216):=ω;have hcells:((Array.range (n*te.size)).map λj=>z.cells[j % z.cells.size]!)=((List.replicate n z.cells.toList).flatten).toArray:=by
   apply Array.ext';have h2:=cX z.cells.toList ω n;have h3:z.cells.size=te.size:=by rw[← Array.length_toList,hzl]
   simp only[Array.toList_map,Array.toList_range];rw[← h2,hzl,h3]
  have hp:(aU.map fun(x:Nat×Operand)=>(x.1,ρ x.2)).toList=aU.toList.map λp=>(p.1,ρ p.2):=η
  by_cases hn:n*te.size=0
  ·have hn0:n=0:=by
    rcases Nat.mul_eq_zero.1 hn with h|h
    ·exact h
    ·omega
   subst hn0;simp only[List.replicate_zero,List.flatten_nil] at hu1;rw[← hp] at hu1;simp only[Instr.buildSlice,Φ,hd,Ψ,bT hte w,Nat.reducePow,Sem.run_ite,if_neg h1,if_pos hn,Ω];simp only[Nat.zero_mul,Array.range_zero',Array.map_empty];rw[hu1];simp[newRow]
  ·simp only[Instr.buildSlice,Φ,hd,Ψ,bT hte w,Nat.reducePow,Sem.run_ite,if_neg h1,if_neg hn,hz1,Ω]
   rw[hcells,hp,hu1];simp[newRow]
 simp only[ho,execOp,Φ,hrun,Ψ,Ω,bI];refine mg hi η rfl rfl rfl (λb hb=>heap_alloc_old w _ hb) (λhI hp=>?_);refine⟨rfl,some ⟨w.heap.size,0,none⟩,n,by rw[hxl],ω,⟨by simp only[maxLen];omega,λh=>by cases h⟩,λh0'=>⟨w.heap.size,0,rfl,?_,η,λi hil=>?_⟩⟩
 ·rintro(hx0|⟨k,hk0⟩)
  ·have:=hi.xlt _ hx0;have:=hi.size;omega
  ·have:=jJ hi hk0;omega
 ·have hm:(i+1)*t.size≤n*t.size:=Nat.mul_le_mul_right _ ω
  rw[Nat.add_mul,Nat.one_mul] at hm;have hcl:cs.length=n*t.size:=by
   rw[hul,← hsz];have:∀ (aU:List (Nat×Operand)) (as cs:List AC),cu (λi=>some (i*te.size,te.size)) opn as aU=some cs→cs.length=as.length:=by
    intro aU
    induction aU with
    |nil=>intro as cs h;simp only[cu,Λ] at h;subst h;rfl
    |cons p aU ih=>
     intro as cs h;simp only[cu] at h;split at h
     ·rename_i off size vs h1 h2
      split at h
      ·rename_i hcc
       rw[ih _ _ h];unfold cg;simp;omega
      ·cases h
     ·cases h
   rw[← hul,this _ _ _ hf,fM,hz]
  have hdat:=kh hc (hu2.mono λc u hcu=>hp c u hcu) i hil;refine⟨_,hdat.length,λj hj=>?_,hdat⟩;rw[ee (heap_alloc_new w _),List.getElem?_take_of_lt hj,List.getElem?_drop];simp
theorem nW {T e:TypeId}{td te:TD}{t:Ty}{n:Nat}{aU:Array (Nat×Operand)}{cs:List AC}{xs:List t.den}(ho:o.op= .buildSlice T n aU)(ht:aN C.P T=some td)(hk:td.k= .slice e)(hte:aN C.P e=some te)
 (hsz:te.size=t.size) (hz:te.zero.length=te.size) (h0:0<te.size) (hsm:n*te.size≤16777216) (hf:cu (λi=>some (i*te.size,te.size)) opn (rep te.zero n) aU.toList=some cs) (hc:eF t n cs=some xs):
 bG C L0 o opn {av:=.one (.row L0.length 0),new:=[.row t e 0 xs]}:=by
 intro L σ w ρ hi hx hfp hlen;obtain⟨d,hd,hkd,hu⟩:=bS ht w;rw[hk] at hkd;have:=bW hkd;subst this;obtain⟨z,hz1,hz2⟩:=eT hte w;have hrz:=cz (C:=C) (L:=L) (σ:=σ) (w:=w) hz2;have hzl:z.cells.toList.length=te.size:=by rw[← hrz.length,hz]
 obtain⟨us,hu1,hu2⟩:=eS (C:=C) (opn:=opn) (L:=L) (σ:=σ) (w:=w) (ρ:=ρ) (place:=λi=>some (i*te.size,te.size)) hf
  (λp hp=>hx p.2 (by simp only[ho,Op.operands,List.mem_toArray];exact List.mem_map.2 ⟨p,by simpa using hp,rfl⟩)) (jN hrz n)
 have hul:=hu2.length;have hxl:=fC hc;have hml:n≤n*te.size:=Nat.le_mul_of_pos_right n h0;have hrun:(Instr.buildSlice T n (aU.map fun(i,x)=>(i,ρ x))).run C.P w= .ok (.slice (some ⟨w.heap.size,0,none⟩) n n) (w.alloc (.cells us e)):=by
  have h1:¬(n*te.size>16777216):=ω;have hcells:((Array.range (n*te.size)).map λj=>z.cells[j % z.cells.size]!)=((List.replicate n z.cells.toList).flatten).toArray:=by
   apply Array.ext';have h2:=cX z.cells.toList ω n;have h3:z.cells.size=te.size:=by rw[← Array.length_toList,hzl]
   simp only[Array.toList_map,Array.toList_range];rw[← h2,hzl,h3]
  have hp:(aU.map fun(x:Nat×Operand)=>(x.1,ρ x.2)).toList=aU.toList.map λp=>(p.1,ρ p.2):=η
  by_cases hn:n*te.size=0
  ·have hn0:n=0:=by
    rcases Nat.mul_eq_zero.1 hn with h|h
    ·exact h
    ·omega
   subst hn0;simp only[List.replicate_zero,List.flatten_nil] at hu1;rw[← hp] at hu1;simp only[Instr.buildSlice,Φ,hd,Ψ,bT hte w,Nat.reducePow,Sem.run_ite,if_neg h1,if_pos hn,Ω];simp only[Nat.zero_mul,Array.range_zero',Array.map_empty];rw[hu1];simp[newRow]
  ·simp only[Instr.buildSlice,Φ,hd,Ψ,bT hte w,Nat.reducePow,Sem.run_ite,if_neg h1,if_neg hn,hz1,Ω]
   rw[hcells,hp,hu1];simp[newRow]
 simp only[ho,execOp,Φ,hrun,Ψ,Ω,bI];have hcl:cs.length=n*t.size:=by
  rw[hul,← hsz];have:∀ (aU:List (Nat×Operand)) (as cs:List AC),cu (λi=>some (i*te.size,te.size)) opn as aU=some cs→cs.length=as.length:=by
   intro aU
   induction aU with
   |nil=>intro as cs h;simp only[cu,Λ] at h;subst h;rfl
   |cons p aU ih=>
    intro as cs h;simp only[cu] at h;split at h
    ·rename_i off size vs h1 h2
     split at h
     ·rename_i hcc
      rw[ih _ _ h];unfold cg;simp;omega
     ·cases h
    ·cases h
  rw[← hul,this _ _ _ hf,fM,hz]
 have hus:us.toList.length=n*t.size:=by rw[← hul,hcl]
 have hzt:te.size=t.size:=hsz;refine eE (g:=.slice (some ⟨w.heap.size,0,none⟩) n n) hi η rfl rfl rfl (λb hb=>heap_alloc_old w _ hb) (λb hb=>by simp only[blk,Λ] at hb;omega) (λhp=>?_) ?_
 ·refine⟨us.toList,?_,ω,λi hil=>kh hc (hu2.mono λc u hcu=>hp c u hcu) i hil⟩
  rw[aR,hxl];exact⟨hus,.inr ⟨w.heap.size,n,us,rfl,Nat.zero_le _,heap_alloc_new w _,Υ _,by simp only[maxLen];omega,by rw[← Array.length_toList,hus],by rw[List.take_of_length_le ω]⟩⟩
 ·refine⟨rfl,.row t e 0 xs,by rw[← hlen];simp,Υ _,λ_ _=>⟨⟨_,_,_,rfl⟩,?_⟩⟩
  rw[← hlen,aR]
theorem nc {T e:TypeId}{td te:TD}{t:Ty}{n:Nat}{aU:Array (Nat×Operand)}{cs:List AC}{xs:List t.den}{k:Nat}(hob:L0[k]? =some (.dead 0))(ho:o.op= .buildSlice T n aU)(ht:aN C.P T=some td)(hk:td.k= .slice e)(hte:aN C.P e=some te)
 (hsz:te.size=t.size) (hz:te.zero.length=te.size) (h0:0<te.size) (hsm:n*te.size≤16777216) (hf:cu (λi=>some (i*te.size,te.size)) opn (rep te.zero n) aU.toList=some cs) (hc:eF t n cs=some xs):
 bG C L0 o opn {av:=.one (.row k 1),upd:=[(k,.row t e 1 xs)],fp:=[k]}:=by
 intro L σ w ρ hi hx hfp hlen;obtain⟨d,hd,hkd,hu⟩:=bS ht w;rw[hk] at hkd;have:=bW hkd;subst this;obtain⟨z,hz1,hz2⟩:=eT hte w;have hrz:=cz (C:=C) (L:=L) (σ:=σ) (w:=w) hz2;have hzl:z.cells.toList.length=te.size:=by rw[← hrz.length,hz]
 obtain⟨us,hu1,hu2⟩:=eS (C:=C) (opn:=opn) (L:=L) (σ:=σ) (w:=w) (ρ:=ρ) (place:=λi=>some (i*te.size,te.size)) hf
  (λp hp=>hx p.2 (by simp only[ho,Op.operands,List.mem_toArray];exact List.mem_map.2 ⟨p,by simpa using hp,rfl⟩)) (jN hrz n)
 have hul:=hu2.length;have hxl:=fC hc;have hml:n≤n*te.size:=Nat.le_mul_of_pos_right n h0;have hrun:(Instr.buildSlice T n (aU.map fun(i,x)=>(i,ρ x))).run C.P w= .ok (.slice (some ⟨w.heap.size,0,none⟩) n n) (w.alloc (.cells us e)):=by
  have h1:¬(n*te.size>16777216):=ω;have hcells:((Array.range (n*te.size)).map λj=>z.cells[j % z.cells.size]!)=((List.replicate n z.cells.toList).flatten).toArray:=by
   apply Array.ext';have h2:=cX z.cells.toList ω n;have h3:z.cells.size=te.size:=by rw[← Array.length_toList,hzl]
   simp only[Array.toList_map,Array.toList_range];rw[← h2,hzl,h3]
  have hp:(aU.map fun(x:Nat×Operand)=>(x.1,ρ x.2)).toList=aU.toList.map λp=>(p.1,ρ p.2):=η
  by_cases hn:n*te.size=0
  ·have hn0:n=0:=by
    rcases Nat.mul_eq_zero.1 hn with h|h
    ·exact h
    ·omega
   subst hn0;simp only[List.replicate_zero,List.flatten_nil] at hu1;rw[← hp] at hu1;simp only[Instr.buildSlice,Φ,hd,Ψ,bT hte w,Nat.reducePow,Sem.run_ite,if_neg h1,if_pos hn,Ω];simp only[Nat.zero_mul,Array.range_zero',Array.map_empty];rw[hu1];simp[newRow]
  ·simp only[Instr.buildSlice,Φ,hd,Ψ,bT hte w,Nat.reducePow,Sem.run_ite,if_neg h1,if_neg hn,hz1,Ω]
   rw[hcells,hp,hu1];simp[newRow]
 simp only[ho,execOp,Φ,hrun,Ψ,Ω,bI];have hcl:cs.length=n*t.size:=by
  rw[hul,← hsz];have:∀ (aU:List (Nat×Operand)) (as cs:List AC),cu (λi=>some (i*te.size,te.size)) opn as aU=some cs→cs.length=as.length:=by
   intro aU
   induction aU with
   |nil=>intro as cs h;simp only[cu,Λ] at h;subst h;rfl
   |cons p aU ih=>
    intro as cs h;simp only[cu] at h;split at h
    ·rename_i off size vs h1 h2
     split at h
     ·rename_i hcc
      rw[ih _ _ h];unfold cg;simp;omega
     ·cases h
    ·cases h
  rw[← hul,this _ _ _ hf,fM,hz]
 have hus:us.toList.length=n*t.size:=by rw[← hul,hcl]
 have hzt:te.size=t.size:=hsz;have hob':L[k]? =some (.dead 0):=by rw[hfp k η];exact hob
 have hlt:k<L.length:=(Δ.1 hob').1;refine cI (σ':=sup σ k (.slice (some ⟨w.heap.size,0,none⟩) n n)) hi hob' η rfl rfl rfl (λb hb _=>heap_alloc_old w _ hb) (λj hj=>d6 σ _ hj) ⟨Nat.zero_le _,λ_ h=>by simp[AO.ver] at h⟩
  (λ_ b hb=>by rw[aR] at hb;simp only[blk,Λ] at hb;exact .inr ω) (λhp hav=>?_) (λ_ _=>?_)
 ·refine⟨us.toList,?_,ω,λi hil=>kh hc (hu2.mono λc u hcu=>hp c u hcu) i hil⟩
  rw[aR,hxl];exact⟨hus,.inr ⟨w.heap.size,n,us,rfl,Nat.zero_le _,heap_alloc_new w _,Υ _,by simp only[maxLen];omega,by rw[← Array.length_toList,hus],by rw[List.take_of_length_le ω]⟩⟩
 ·exact⟨rfl,.row t e 1 xs,by simp[hlt],Υ _,λ_ _=>⟨⟨_,_,_,rfl⟩,(aR _ _ _).symm⟩⟩
theorem ng {T e:TypeId}{td te:TD}{t:Ty}{n:Nat}{aU:Array (Nat×Operand)}{cs:List AC}{xs:List t.den}(ho:o.op= .buildSlice T n aU)(ht:aN C.P T=some td)(hk:td.k= .slice e)(hte:aN C.P e=some te)
 (hsz:te.size=t.size) (hz:te.zero.length=te.size) (h0:0<te.size) (hsm:n*te.size≤16777216) (hf:cu (λi=>some (i*te.size,te.size)) opn (rep te.zero n) aU.toList=some cs) (hc:eF t n cs=some xs):
 bG C L0 o opn {av:=.one (.rwc L0.length 0),new:=[.rowc e te.size 0 cs]}:=by
 intro L σ w ρ hi hx hfp hlen;obtain⟨d,hd,hkd,hu⟩:=bS ht w;rw[hk] at hkd;have:=bW hkd;subst this;obtain⟨z,hz1,hz2⟩:=eT hte w;have hrz:=cz (C:=C) (L:=L) (σ:=σ) (w:=w) hz2;have hzl:z.cells.toList.length=te.size:=by rw[← hrz.length,hz]
 obtain⟨us,hu1,hu2⟩:=eS (C:=C) (opn:=opn) (L:=L) (σ:=σ) (w:=w) (ρ:=ρ) (place:=λi=>some (i*te.size,te.size)) hf
  (λp hp=>hx p.2 (by simp only[ho,Op.operands,List.mem_toArray];exact List.mem_map.2 ⟨p,by simpa using hp,rfl⟩)) (jN hrz n)
 have hul:=hu2.length;have hxl:=fC hc;have hml:n≤n*te.size:=Nat.le_mul_of_pos_right n h0;have hrun:(Instr.buildSlice T n (aU.map fun(i,x)=>(i,ρ x))).run C.P w= .ok (.slice (some ⟨w.heap.size,0,none⟩) n n) (w.alloc (.cells us e)):=by
  have h1:¬(n*te.size>16777216):=ω;have hcells:((Array.range (n*te.size)).map λj=>z.cells[j % z.cells.size]!)=((List.replicate n z.cells.toList).flatten).toArray:=by
   apply Array.ext';have h2:=cX z.cells.toList ω n;have h3:z.cells.size=te.size:=by rw[← Array.length_toList,hzl]
   simp only[Array.toList_map,Array.toList_range];rw[← h2,hzl,h3]
  have hp:(aU.map fun(x:Nat×Operand)=>(x.1,ρ x.2)).toList=aU.toList.map λp=>(p.1,ρ p.2):=η
  by_cases hn:n*te.size=0
  ·have hn0:n=0:=by
    rcases Nat.mul_eq_zero.1 hn with h|h
    ·exact h
    ·omega
   subst hn0;simp only[List.replicate_zero,List.flatten_nil] at hu1;rw[← hp] at hu1;simp only[Instr.buildSlice,Φ,hd,Ψ,bT hte w,Nat.reducePow,Sem.run_ite,if_neg h1,if_pos hn,Ω];simp only[Nat.zero_mul,Array.range_zero',Array.map_empty];rw[hu1];simp[newRow]
  ·simp only[Instr.buildSlice,Φ,hd,Ψ,bT hte w,Nat.reducePow,Sem.run_ite,if_neg h1,if_neg hn,hz1,Ω]
   rw[hcells,hp,hu1];simp[newRow]
 simp only[ho,execOp,Φ,hrun,Ψ,Ω,bI];have hcl:cs.length=n*t.size:=by
  rw[hul,← hsz];have:∀ (aU:List (Nat×Operand)) (as cs:List AC),cu (λi=>some (i*te.size,te.size)) opn as aU=some cs→cs.length=as.length:=by
   intro aU
   induction aU with
   |nil=>intro as cs h;simp only[cu,Λ] at h;subst h;rfl
   |cons p aU ih=>
    intro as cs h;simp only[cu] at h;split at h
    ·rename_i off size vs h1 h2
     split at h
     ·rename_i hcc
      rw[ih _ _ h];unfold cg;simp;omega
     ·cases h
    ·cases h
  rw[← hul,this _ _ _ hf,fM,hz]
 have hus:us.toList.length=n*t.size:=by rw[← hul,hcl]
 have hzt:te.size=t.size:=hsz;refine eE (g:=.slice (some ⟨w.heap.size,0,none⟩) n n) hi η rfl rfl rfl (λb hb=>heap_alloc_old w _ hb) (λb hb=>by simp only[blk,Λ] at hb;omega) (λhp=>?_) ?_
 ·refine⟨us.toList,n,?_,h0,by rw[hcl,hsz],hu2.mono λc u hcu=>hp c u hcu⟩
  rw[aR];exact⟨by rw[hus,hsz],.inr ⟨w.heap.size,n,us,rfl,Nat.zero_le _,heap_alloc_new w _,Υ _,by simp only[maxLen];omega,by rw[← Array.length_toList,hus,hsz],by rw[List.take_of_length_le (by rw[hsz];omega)]⟩⟩
 ·refine⟨rfl,.rowc e te.size 0 cs,by rw[← hlen];simp,Υ _,λ_ _=>⟨⟨_,_,_,rfl⟩,?_⟩⟩
  rw[← hlen,aR]
theorem nf {T e:TypeId}{td te:TD}{t:Ty}{n:Nat}{aU:Array (Nat×Operand)}{cs:List AC}(ho:o.op= .buildSlice T n aU)(ht:aN C.P T=some td)(hk:td.k= .slice e)(hte:aN C.P e=some te)
 (hsz:te.size=t.size) (hz:te.zero.length=te.size) (h0:0<te.size) (hsm:n*te.size≤16777216) (hf:cu (λi=>some (i*te.size,te.size)) opn (rep te.zero n) aU.toList=some cs):
 bG C L0 o opn {av:=.one (.rwc L0.length 0),new:=[.rowc e te.size 0 cs]}:=by
 intro L σ w ρ hi hx hfp hlen;obtain⟨d,hd,hkd,hu⟩:=bS ht w;rw[hk] at hkd;have:=bW hkd;subst this;obtain⟨z,hz1,hz2⟩:=eT hte w;have hrz:=cz (C:=C) (L:=L) (σ:=σ) (w:=w) hz2;have hzl:z.cells.toList.length=te.size:=by rw[← hrz.length,hz]
 obtain⟨us,hu1,hu2⟩:=eS (C:=C) (opn:=opn) (L:=L) (σ:=σ) (w:=w) (ρ:=ρ) (place:=λi=>some (i*te.size,te.size)) hf
  (λp hp=>hx p.2 (by simp only[ho,Op.operands,List.mem_toArray];exact List.mem_map.2 ⟨p,by simpa using hp,rfl⟩)) (jN hrz n)
 have hul:=hu2.length;have hml:n≤n*te.size:=Nat.le_mul_of_pos_right n h0;have hrun:(Instr.buildSlice T n (aU.map fun(i,x)=>(i,ρ x))).run C.P w= .ok (.slice (some ⟨w.heap.size,0,none⟩) n n) (w.alloc (.cells us e)):=by
  have h1:¬(n*te.size>16777216):=ω;have hcells:((Array.range (n*te.size)).map λj=>z.cells[j % z.cells.size]!)=((List.replicate n z.cells.toList).flatten).toArray:=by
   apply Array.ext';have h2:=cX z.cells.toList ω n;have h3:z.cells.size=te.size:=by rw[← Array.length_toList,hzl]
   simp only[Array.toList_map,Array.toList_range];rw[← h2,hzl,h3]
  have hp:(aU.map fun(x:Nat×Operand)=>(x.1,ρ x.2)).toList=aU.toList.map λp=>(p.1,ρ p.2):=η
  by_cases hn:n*te.size=0
  ·have hn0:n=0:=by
    rcases Nat.mul_eq_zero.1 hn with h|h
    ·exact h
    ·omega
   subst hn0;simp only[List.replicate_zero,List.flatten_nil] at hu1;rw[← hp] at hu1;simp only[Instr.buildSlice,Φ,hd,Ψ,bT hte w,Nat.reducePow,Sem.run_ite,if_neg h1,if_pos hn,Ω];simp only[Nat.zero_mul,Array.range_zero',Array.map_empty];rw[hu1];simp[newRow]
  ·simp only[Instr.buildSlice,Φ,hd,Ψ,bT hte w,Nat.reducePow,Sem.run_ite,if_neg h1,if_neg hn,hz1,Ω]
   rw[hcells,hp,hu1];simp[newRow]
 simp only[ho,execOp,Φ,hrun,Ψ,Ω,bI];have hcl:cs.length=n*t.size:=by
  rw[hul,← hsz];have:∀ (aU:List (Nat×Operand)) (as cs:List AC),cu (λi=>some (i*te.size,te.size)) opn as aU=some cs→cs.length=as.length:=by
   intro aU
   induction aU with
   |nil=>intro as cs h;simp only[cu,Λ] at h;subst h;rfl
   |cons p aU ih=>
    intro as cs h;simp only[cu] at h;split at h
    ·rename_i off size vs h1 h2
     split at h
     ·rename_i hcc
      rw[ih _ _ h];unfold cg;simp;omega
     ·cases h
    ·cases h
  rw[← hul,this _ _ _ hf,fM,hz]
 have hus:us.toList.length=n*t.size:=by rw[← hul,hcl]
 have hzt:te.size=t.size:=hsz;refine eE (g:=.slice (some ⟨w.heap.size,0,none⟩) n n) hi η rfl rfl rfl (λb hb=>heap_alloc_old w _ hb) (λb hb=>by simp only[blk,Λ] at hb;omega) (λhp=>?_) ?_
 ·refine⟨us.toList,n,?_,h0,by rw[hcl,hsz],hu2.mono λc u hcu=>hp c u hcu⟩
  rw[aR];exact⟨by rw[hus,hsz],.inr ⟨w.heap.size,n,us,rfl,Nat.zero_le _,heap_alloc_new w _,Υ _,by simp only[maxLen];omega,by rw[← Array.length_toList,hus,hsz],by rw[List.take_of_length_le (by rw[hsz];omega)]⟩⟩
 ·refine⟨rfl,.rowc e te.size 0 cs,by rw[← hlen];simp,Υ _,λ_ _=>⟨⟨_,_,_,rfl⟩,?_⟩⟩
  rw[← hlen,aR]
theorem mL {T e:TypeId}{td te:TD}{t:Ty}{n:Nat}{aU:Array (Nat×Operand)}{cs:List AC}{xs:List t.den}{k:Nat}(hob:L0[k]? =some (.dead 0))(ho:o.op= .buildSlice T n aU)(ht:aN C.P T=some td)(hk:td.k= .slice e)(hte:aN C.P e=some te)
 (hsz:te.size=t.size) (hz:te.zero.length=te.size) (h0:0<te.size) (hsm:n*te.size≤16777216) (hf:cu (λi=>some (i*te.size,te.size)) opn (rep te.zero n) aU.toList=some cs) (hc:eF t n cs=some xs):
 bG C L0 o opn {av:=.one (.rwc k 1),upd:=[(k,.rowc e te.size 1 cs)],fp:=[k]}:=by
 intro L σ w ρ hi hx hfp hlen;obtain⟨d,hd,hkd,hu⟩:=bS ht w;rw[hk] at hkd;have:=bW hkd;subst this;obtain⟨z,hz1,hz2⟩:=eT hte w;have hrz:=cz (C:=C) (L:=L) (σ:=σ) (w:=w) hz2;have hzl:z.cells.toList.length=te.size:=by rw[← hrz.length,hz]
 obtain⟨us,hu1,hu2⟩:=eS (C:=C) (opn:=opn) (L:=L) (σ:=σ) (w:=w) (ρ:=ρ) (place:=λi=>some (i*te.size,te.size)) hf
  (λp hp=>hx p.2 (by simp only[ho,Op.operands,List.mem_toArray];exact List.mem_map.2 ⟨p,by simpa using hp,rfl⟩)) (jN hrz n)
 have hul:=hu2.length;have hxl:=fC hc;have hml:n≤n*te.size:=Nat.le_mul_of_pos_right n h0;have hrun:(Instr.buildSlice T n (aU.map fun(i,x)=>(i,ρ x))).run C.P w= .ok (.slice (some ⟨w.heap.size,0,none⟩) n n) (w.alloc (.cells us e)):=by
  have h1:¬(n*te.size>16777216):=ω;have hcells:((Array.range (n*te.size)).map λj=>z.cells[j % z.cells.size]!)=((List.replicate n z.cells.toList).flatten).toArray:=by
   apply Array.ext';have h2:=cX z.cells.toList ω n;have h3:z.cells.size=te.size:=by rw[← Array.length_toList,hzl]
   simp only[Array.toList_map,Array.toList_range];rw[← h2,hzl,h3]
  have hp:(aU.map fun(x:Nat×Operand)=>(x.1,ρ x.2)).toList=aU.toList.map λp=>(p.1,ρ p.2):=η
  by_cases hn:n*te.size=0
  ·have hn0:n=0:=by
    rcases Nat.mul_eq_zero.1 hn with h|h
    ·exact h
    ·omega
   subst hn0;simp only[List.replicate_zero,List.flatten_nil] at hu1;rw[← hp] at hu1;simp only[Instr.buildSlice,Φ,hd,Ψ,bT hte w,Nat.reducePow,Sem.run_ite,if_neg h1,if_pos hn,Ω];simp only[Nat.zero_mul,Array.range_zero',Array.map_empty];rw[hu1];simp[newRow]
  ·simp only[Instr.buildSlice,Φ,hd,Ψ,bT hte w,Nat.reducePow,Sem.run_ite,if_neg h1,if_neg hn,hz1,Ω]
   rw[hcells,hp,hu1];simp[newRow]
 simp only[ho,execOp,Φ,hrun,Ψ,Ω,bI];have hcl:cs.length=n*t.size:=by
  rw[hul,← hsz];have:∀ (aU:List (Nat×Operand)) (as cs:List AC),cu (λi=>some (i*te.size,te.size)) opn as aU=some cs→cs.length=as.length:=by
   intro aU
   induction aU with
   |nil=>intro as cs h;simp only[cu,Λ] at h;subst h;rfl
   |cons p aU ih=>
    intro as cs h;simp only[cu] at h;split at h
    ·rename_i off size vs h1 h2
     split at h
     ·rename_i hcc
      rw[ih _ _ h];unfold cg;simp;omega
     ·cases h
    ·cases h
  rw[← hul,this _ _ _ hf,fM,hz]
 have hus:us.toList.length=n*t.size:=by rw[← hul,hcl]
 have hzt:te.size=t.size:=hsz;have hob':L[k]? =some (.dead 0):=by rw[hfp k η];exact hob
 have hlt:k<L.length:=(Δ.1 hob').1;refine cI (σ':=sup σ k (.slice (some ⟨w.heap.size,0,none⟩) n n)) hi hob' η rfl rfl rfl (λb hb _=>heap_alloc_old w _ hb) (λj hj=>d6 σ _ hj) ⟨Nat.zero_le _,λ_ h=>by simp[AO.ver] at h⟩
  (λ_ b hb=>by rw[aR] at hb;simp only[blk,Λ] at hb;exact .inr ω) (λhp hav=>?_) (λ_ _=>?_)
 ·refine⟨us.toList,n,?_,h0,by rw[hcl,hsz],hu2.mono λc u hcu=>hp c u hcu⟩
  rw[aR];exact⟨by rw[hus,hsz],.inr ⟨w.heap.size,n,us,rfl,Nat.zero_le _,heap_alloc_new w _,Υ _,by simp only[maxLen];omega,by rw[← Array.length_toList,hus,hsz],by rw[List.take_of_length_le (by rw[hsz];omega)]⟩⟩
 ·exact⟨rfl,.rowc e te.size 1 cs,by simp[hlt],Υ _,λ_ _=>⟨⟨_,_,_,rfl⟩,(aR _ _ _).symm⟩⟩
theorem CN {T:TypeId}{td:TD}{fs:List (Nat×TypeId×Nat)}{aU:Array (Nat×Operand)}{cs:List AC}(ho:o.op= .build T aU)(ht:aN C.P T=some td)(hk:td.k= .struct fs)
 (hok:∀ f,f∈fs→∃ tf,aN C.P f.2.1=some tf∧tf.size=f.2.2) (hf:cu (fun(i:Nat)=>(fs[i]?).map λf=>(f.1,f.2.2)) opn td.zero aU.toList=some cs):
 bG C L0 o opn {av:=.agg cs}:=by
 intro L σ w ρ hi hx hfp _;obtain⟨d,hd,hkd,hu⟩:=bS ht w;rw[hk] at hkd;obtain⟨gs,rfl,hgs⟩:=pV hkd;obtain⟨z,hz1,hz2⟩:=eT ht w;have hrz:=cz (C:=C) (L:=L) (σ:=σ) (w:=w) hz2;obtain⟨us,hu1,hu2⟩:=eS (C:=C) (opn:=opn) (L:=L) (σ:=σ) (w:=w) (ρ:=ρ) (place:=fun(i:Nat)=>(fs[i]?).map fun(f:Nat×TypeId×Nat)=>(f.1,f.2.2)) hf
  (λp hp=>hx p.2 (by simp only[ho,Op.operands,List.mem_toArray];exact List.mem_map.2 ⟨p,by simpa using hp,rfl⟩)) hrz
 have hplaces:∀ (l:List Field),(∀ f,f∈l→∃ tf,aN C.P f.type=some tf∧tf.size=C.P.cellsOf f.type)→
  (l.mapM (m:=Sem) λf=>do pure (f.offset,← sizeOf f.type)).run C.P w= .ok (l.map λf=>(f.offset,C.P.cellsOf f.type)) w:=by
  intro l
  induction l with
  |nil=>intro _;rfl
  |cons f l ih=>
   intro hl;obtain⟨tf,h1,h2⟩:=hl f (List.mem_cons_self ..);have h3:=ih λg hg=>hl g (List.mem_cons_of_mem _ hg);simp only[List.mapM_cons,Φ,bT h1 w,Ψ,Ω,h3,h2,List.map_cons]
 have hall:∀ f,f∈gs.toList→∃ tf,aN C.P f.type=some tf∧tf.size=C.P.cellsOf f.type:=λf hfm=>by
  obtain⟨tf,h1,h2⟩:=hok (f.offset,f.type,C.P.cellsOf f.type) (by rw[← hgs];exact List.mem_map.2 ⟨f,hfm,rfl⟩);exact⟨tf,h1,h2⟩
 have hp:=hplaces gs.toList hall;have hrun:(Instr.build T (aU.map fun(i,x)=>(i,ρ x))).run C.P w= .ok (.agg us) w:=by
  have hpl:(λi=>((gs.toList.map λf=>(f.offset,C.P.cellsOf f.type)).toArray)[i]?)=fun(i:Nat)=>(fs[i]?).map fun(f:Nat×TypeId×Nat)=>(f.1,f.2.2):=by
   funext i
   rw[← hgs];simp[Option.map_map]
   rfl
  have hps:(aU.map fun(x:Nat×Operand)=>(x.1,ρ x.2)).toList=aU.toList.map λp=>(p.1,ρ p.2):=η;simp only[Instr.build,Φ,hz1,Ψ,hd,Array.mapM_eq_mapM_toList,Sem.run_map,hp];rw[hpl,hps];simp only[Array.toArray_toList] at hu1;rw[hu1]
  rfl
 simp only[ho,execOp,Φ,hrun,Ψ,Ω,bI];exact aZ hi ⟨us.toList,η,hu2⟩
theorem uI {T e:TypeId}{td te:TD}{n:Nat}{aU:Array (Nat×Operand)}{cs:List AC}(ho:o.op= .build T aU)(ht:aN C.P T=some td)(hk:td.k= .array n e)(hte:aN C.P e=some te)
 (hf:cu (fun(i:Nat)=>some (i*te.size,te.size)) opn td.zero aU.toList=some cs):
 bG C L0 o opn {av:=.agg cs}:=by
 intro L σ w ρ hi hx hfp _;obtain⟨d,hd,hkd,hu⟩:=bS ht w;rw[hk] at hkd;have:=lK hkd;subst this;obtain⟨z,hz1,hz2⟩:=eT ht w;have hrz:=cz (C:=C) (L:=L) (σ:=σ) (w:=w) hz2;obtain⟨us,hu1,hu2⟩:=eS (C:=C) (opn:=opn) (L:=L) (σ:=σ) (w:=w) (ρ:=ρ) (place:=fun(i:Nat)=>some (i*te.size,te.size)) hf
  (λp hp=>hx p.2 (by simp only[ho,Op.operands,List.mem_toArray];exact List.mem_map.2 ⟨p,by simpa using hp,rfl⟩)) hrz
 have hrun:(Instr.build T (aU.map fun(i,x)=>(i,ρ x))).run C.P w= .ok (.agg us) w:=by
  have hps:(aU.map fun(x:Nat×Operand)=>(x.1,ρ x.2)).toList=aU.toList.map λp=>(p.1,ρ p.2):=η;simp only[Instr.build,Φ,hz1,Ψ,hd,bT hte w];rw[hps];simp only[Array.toArray_toList] at hu1;rw[hu1]
  rfl
 simp only[ho,execOp,Φ,hrun,Ψ,Ω,bI];exact aZ hi ⟨us.toList,η,hu2⟩
end
end Go.AV
