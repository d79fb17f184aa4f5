/- Part of the proof. -/
import Derived.Test.YtiedpcchhicifaaGreatDoorLu
import Derived.ProofKit
import Derived.Below
import Derived.ChangeSame
import Derived.Carry
set_option linter.unusedSimpArgs false
set_option linter.unusedVariables false
open Option.some renaming injEq→Λ
namespace Go.AV
open Go Go.RowKit
def Cr (P:Program)(g:TypeId→Option Ty)(tot:Nat):List Field→Nat→Option Ty
 |[],o=>if o=tot then some .unit else none
 |f::r,o=>match g f.type,Cr P g tot r (o+P.cellsOf f.type) with
  |some a,some b=>if f.offset=o then some (.pair a b) else none
  |_,_=>none
def xX (P:Program):Nat→TypeId→Option Ty
 |0,_=>none
 |n+1,t=>match P.underlying t with
  |some (.int k)=>some (.int k)
  |some .bool=>some .bool
  |some .string=>some .str
  |some (.slice e)=>match xX P n e with
   |some a=>if 0<P.cellsOf e then some (.list a) else none
   |none=>none
  |some (.struct fs)=>Cr P (xX P n) (P.cellsOf t) fs.toList 0
  |_=>none
theorem ym {α β:Type}{f:α→Option β}:∀ {l:List α} {ys:List β},l.mapM f=some ys→ys.length=l.length∧∀ (j:Nat) (x:α),l[j]? =some x→∃ y,ys[j]? =some y∧f x=some y
 |[],ys,h=>by
  simp at h;subst h;exact⟨rfl,λj x e=>by simp at e⟩
 |a::l,ys,h=>by
  rw[List.mapM_cons] at h
  cases hf:f a with
  |none=>rw[hf] at h;simp at h
  |some b=>
   rw[hf] at h
   cases hl:l.mapM f with
   |none=>rw[hl] at h;simp at h
   |some bs=>
    rw[hl] at h;simp at h;subst h;obtain⟨h1,h2⟩:=ym hl;refine⟨by simp[h1],λj x e=>?_⟩
    cases j with
    |zero=>simp at e;subst e;exact⟨b,η,hf⟩
    |succ j=>simp at e;obtain⟨y,e1,e2⟩:=h2 j x e;exact⟨y,by simpa using e1,e2⟩
theorem DJ {α:Type}{p:Nat→α→Prop}(d:α):∀ n:Nat,(∀ i,i<n→∃ x,p i x)→∃ xs:List α,xs.length=n∧∀ i,i<n→p i (xs.getD i d)
 |0,_=>⟨[],rfl,λi h=>by omega⟩
 |n+1,h=>by
  obtain⟨xs,h1,h2⟩:=DJ d n λi hi=>h i ω;obtain⟨x,hx⟩:=h n ω;refine⟨xs++[x],by simp[h1],λi hi=>?_⟩
  by_cases e:i=n
  ·subst e;simpa [List.getD,← h1] using hx
  ·have:=h2 i ω
   have hl:i<xs.length:=ω;have e2:(xs++[x]).getD i d=xs.getD i d:=by simp[List.getD,List.getElem?_append_left hl]
   rw[e2];exact this
section
variable {H:Type} {enc:TypeId×Value→H} {P:Program} {w:World} {held:Bool}
theorem pY {a:Addr}{n:Nat}{cs:List Value}(h:w.cells? 0 a n=some cs):cs.length=n∧∀ j,j<n→w.cell? (a.add j)=cs[j]?:=by
 unfold World.cells? at h;rw[if_pos (Nat.zero_le _)] at h;obtain⟨h1,h2⟩:=ym h;refine⟨by simpa using h1,λj hj=>?_⟩;obtain⟨y,e1,e2⟩:=h2 j j (by simp[hj]);rw[e1,e2]
theorem G6 {a:Addr}{v:Value}(h:w.cell? a=some v):a.spot=none∧a.block<w.heap.size:=by
 unfold World.cell? at h;split at h
 ·rename_i c t fr hb
  refine⟨?_,(Array.getElem?_eq_some_iff.1 hb).1⟩
  cases hs:a.spot with
  |none=>rfl
  |some x=>rw[hs] at h;simp at h
 ·cases h
theorem um {g:TypeId→Option Ty}{fuel:Nat}{tot:Nat}{cs:List Value}(hl:cs.length=tot)
 (hg:∀ t T,g t=some T→∀ c x,DataW.trod enc P w 0 (λ_=>true) held fuel t c=some x→∃ d,Dat (λ_=>False) w T d c):
 ∀ {fs:List Field} {o:Nat} {T:Ty},Cr P g tot fs o=some T→
   (∀ f,f∈fs→∃ y,DataW.trod enc P w 0 (λ_=>true) held fuel f.type ((cs.drop f.offset).take (P.cellsOf f.type))=some y)→∃ d,Dat (λ_=>False) w T d (cs.drop o)
 |[],o,T,hs,_=>by
  simp only[Cr] at hs;split at hs
  ·rename_i e;subst e
   simp only[Λ] at hs;subst hs;exact⟨(),by simp only[Dat];exact List.drop_eq_nil_of_le ω⟩
  ·cases hs
 |f::fs,o,T,hs,hm=>by
  simp only[Cr] at hs;split at hs
  ·rename_i a b h1 h2
   split at hs
   ·rename_i e
    simp only[Λ] at hs;subst hs;obtain⟨y,hf⟩:=hm f η;obtain⟨d1,hd1⟩:=hg _ _ h1 _ _ hf;obtain⟨d2,hd2⟩:=um hl hg h2 λf' hf'=>hm f' (by simp[hf']);rw[e] at hd1;refine⟨(d1,d2),?_⟩;simp only[Dat];refine⟨_,_,?_,hd1,hd2⟩;rw[← List.drop_drop,List.take_append_drop]
   ·cases hs
  ·cases hs
theorem jS:∀ {n:Nat} {t:TypeId} {T:Ty},xX P n t=some T→∀ fuel cs x,DataW.trod enc P w 0 (λ_=>true) held fuel t cs=some x→∃ d,Dat (λ_=>False) w T d cs
 |0,_,_,h=>by cases h
 |n+1,t,T,h=>by
  intro fuel cs x hx;simp only[xX] at h;split at h
  ·rename_i k hu
   simp only[Λ] at h;subst h;obtain⟨m,rfl,_⟩:=DataW.trod_int hu hx;exact⟨m,by simp only[Dat]⟩
  ·rename_i hu
   simp only[Λ] at h;subst h;obtain⟨m,rfl,_⟩:=DataW.trod_bool hu hx;exact⟨m,by simp only[Dat]⟩
  ·rename_i hu
   simp only[Λ] at h;subst h;obtain⟨m,rfl,_⟩:=DataW.trod_string hu hx;exact⟨m.data.toList,by simp only[Dat]⟩
  ·rename_i e hu
   split at h
   ·rename_i a ha
    split at h
    ·rename_i h0
     simp only[Λ] at h;subst h;rcases DataW.trod_slice hu hx with⟨rfl,_⟩|⟨A,len,cap,elems,rest,n',rfl,rfl,_,_,hlc,hcm,hel,hget,_⟩
     ·exact⟨([]:List a.den),fA a⟩
     ·have hex:∀ i,i<len→∃ d:a.den,∃ cs':List Value,w.cells? 0 (A.add (i*P.cellsOf e)) (P.cellsOf e)=some cs'∧Dat (λ_=>False) w a d cs':=by
       intro i hi;have h1:=hget i hi;have h2:∃ y,elems[i]? =some y:=⟨elems[i]'ω,List.getElem?_eq_getElem ω⟩
       obtain⟨y,hy⟩:=h2;rw[hy] at h1
       cases hc:w.cells? 0 (A.add (i*P.cellsOf e)) (P.cellsOf e) with
       |none=>rw[hc] at h1;simp at h1
       |some cs'=>
        rw[hc] at h1;simp only[Option.bind_some] at h1;obtain⟨d,hd⟩:=jS ha _ _ _ h1;exact⟨d,cs',rfl,hd⟩
      obtain⟨xs,hxl,hxs⟩:=DJ a.dflt len hex;refine⟨xs,?_⟩;simp only[Dat];refine⟨some A,cap,by rw[hxl],ω,⟨hcm,λh=>by cases h⟩,λhpos=>?_⟩;obtain⟨cs0,hc0,hd0⟩:=hxs 0 ω;have hsz:a.size=P.cellsOf e:=by rw[← hd0.length];exact(pY hc0).1
      have hsp:A.spot=none∧A.block<w.heap.size:=by
       obtain⟨g1,g2⟩:=pY hc0;have:=g2 0 ω;rw[Nat.zero_mul] at this;have e0:(A.add 0).add 0=A:=by simp[Addr.add]
       rw[e0,List.getElem?_eq_getElem ω] at this;exact G6 this
      obtain⟨Ab,Ao,As⟩:=A;simp only at hsp;obtain⟨rfl,hblk⟩:=hsp;refine⟨Ab,Ao,rfl,λh=>h,hblk,λi hi=>?_⟩;obtain⟨cs',hc,hd⟩:=hxs i ω;refine⟨cs',hd.length,λj hj=>?_,hd⟩;have:=(pY hc).2 j ω;rw[← this];rw[add_lit,add_lit,hsz]
    ·cases h
   ·cases h
  ·rename_i fs hu
   obtain⟨xs,n',rfl,_,hl,hxl,hget⟩:=DataW.trod_struct hu hx;have:=um (P:=P) (w:=w) (enc:=enc) (held:=held) (g:=xX P n) (fuel:=n') (tot:=P.cellsOf t) hl (λt' T' ht' c x hx'=>jS ht' _ _ _ hx') h (λf hf=>by
    obtain⟨i,hi⟩:=List.getElem?_of_mem hf;have hi':fs[i]? =some f:=by simpa using hi
    have h1:=hget i f hi';have hlt:i<xs.length:=by
     rw[hxl];exact(Array.getElem?_eq_some_iff.1 hi').1
    exact⟨xs[i],by rw[h1,List.getElem?_eq_getElem hlt]⟩)
   simpa using this
  ·cases h
theorem FH {L:List AO}{σ:Sig}{C:Ctx}{T:Ty}{d:T.den}{cs:Array Value}(hX:∀ b,¬avd C L σ b)(hd:Dat (λ_=>False) w T d cs.toList):RV C L σ w (.agg (acs T d)) (.agg cs):=
 ⟨cs.toList,η,kW (hd.keep (Nat.le_refl _) (λ_ _ _=>rfl) (λb _ hb=>(hX b hb).elim))⟩
theorem M8 {L:List AO}{σ:Sig}{C:Ctx}{T:Ty}{d:T.den}{v:Value}{c:AC}(hX:∀ b,¬avd C L σ b)(hd:Dat (λ_=>False) w T d [v])(hc:acs T d=[c]):RV C L σ w (.one c) v:=by
 have h:=kW (C:=C) (L:=L) (σ:=σ) (hd.keep (Nat.le_refl _) (λ_ _ _=>rfl) (λb _ hb=>(hX b hb).elim));rw[hc] at h;exact h.1
end
section
variable {H:Type} {enc:TypeId×Value→H} {P:Program}
theorem MORE.below {w w':World}(h:MORE w w'):Below w.heap.size w w':=⟨h.os,h.tape,h.output,h.size,h.block⟩
theorem pA (hl:laidOutB P=true){W W':World}(hm:MORE W W'):∀ {ts:List TypeId} {vs:List Value} {ds:List (DataW H)} {ps:List MemPlace},(∀ t,t∈ts→P.readableRec t=true∧t<P.types.size)→
 DataW.TrodAll enc P W 0 (λ_=>true) true ts vs ds ps→(∀ x,x∈ps→x.block<W.heap.size)→DataW.TrodAll enc P W' 0 (λb=>decide (b<W.heap.size)) true ts vs ds ps
 |[],[],[],ps,_,h,_=>h
 |t::ts,v::vs,d::ds,ps,ht,h,hlt=>by
  obtain⟨p,q,h1,h2,rfl⟩:=h;have h3:=ht t (List.mem_cons_self ..);exact⟨p,q,Below.trod hl h3.1 h3.2 h1 hm.below (λx hx=>hlt x (List.mem_append_left _ hx)),pA hl hm (λt' ht'=>ht t' (List.mem_cons_of_mem _ ht')) h2 (λx hx=>hlt x (List.mem_append_right _ hx)),rfl⟩
 |[],_::_,_,_,_,h,_=>h.elim
 |[],[],_::_,_,_,h,_=>h.elim
 |_::_,[],_,_,_,h,_=>h.elim
 |_::_,_::_,[],_,_,h,_=>h.elim
theorem LE {f:Func}{s:ChangeSpec}{fresh handsOn:Bool}{W W':World}{args:Array Value}{v:Value}{ds:List (DataW H)}{before:List MemPlace}
 (hW:DataW.Whole enc P f.params.toList s.vars false W args.toList ds [] before) (hl:laidOutB P=true) (hm:MORE W W') (hvars:s.vars=[])
 (hread:∀ t,t∈f.params.toList→P.readableRec t=true∧t<P.types.size) (hargs:(s.fn H (ds++[])).args=ds) (hvs:(s.fn H (ds++[])).vars=[])
 (hres:∀ (b:Nat) (sp:Nat→Bool) (hd:Bool),DataW.TrodAll enc P W' b sp hd f.resultTypes.toList (v.resultList f.resultTypes.size) (s.fn H (ds++[])).results []):
 s.post enc P f false fresh handsOn false W args v W':=by
 have hlt:∀ x,x∈before→x.block<W.heap.size:=λx hx=>hW.lt x hx;obtain⟨p,q,hA,hV,hpq,hz,hn⟩:=id hW;have hq:q=[]:=by rw[hvars] at hV;exact hV
 subst hq;rw[List.append_nil] at hpq;subst hpq;refine⟨ds,[],before,[],before,[],hW,hres _ _ _,?_,?_,⟨hm.os,hm.output,λi hi=>?_⟩,λh=>by cases h⟩
 ·rw[hargs];exact pA hl hm hread hA hlt
 ·rw[hvars,hvs];rfl
 ·rw[hm.block i hi]
  cases W.heap[i]? with
  |none=>rfl
  |some o=>
   cases o with
   |cells c t fr=>exact⟨rfl,rfl,rfl,λ_ _=>rfl⟩
   |map es clock=>exact .inr ⟨rfl,rfl⟩
   |_=>rfl
end
end Go.AV
