/- Part of the proof. -/
import Derived.Test.YtiedpcchhicifaaGreatDoorLl
set_option linter.unusedSimpArgs false
set_option linter.unusedVariables false
open List renaming getElem?_eq_some_iff→Δ
namespace Go.AV
open Go Go.RowKit
inductive Anc (ops:List Oper):Nat→Nat→Prop
 |edge {j:Nat} {o:Oper} {e:Edge}:ops[j]? =some o→e∈o.after→Region.binds .any e=true→Anc ops e.on j
 |trans {i j:Nat} {o:Oper} {e:Edge}:Anc ops i e.on→ops[j]? =some o→e∈o.after→Region.binds .any e=true→Anc ops i j
def AQ (masks:List Nat)(o:Oper):Nat:=o.after.toList.foldl (λs e=>if Region.binds .any e then s ||| (1 <<< e.on) ||| masks.getD e.on 0 else s) 0
def xh:List Oper→List Nat→List Nat
 |[],ms=>ms
 |o::r,ms=>xh r (ms++[AQ ms o])
theorem Bq {ops:List Oper}{masks:List Nat}{o:Oper}{j:Nat}(hj:ops[j]? =some o)(hm:∀ k i,(masks.getD k 0).testBit i=true→Anc ops i k):
 ∀ i,(AQ masks o).testBit i=true→Anc ops i j:=by
 have:∀ (l:List Edge) (s:Nat),(∀ e,e∈l→e∈o.after)→(∀ i,s.testBit i=true→Anc ops i j)→
  ∀ i,(l.foldl (λs e=>if Region.binds .any e then s ||| (1 <<< e.on) ||| masks.getD e.on 0 else s) s).testBit i=true→Anc ops i j:=by
  intro l
  induction l with
  |nil=>intro s _ hs i h;exact hs i h
  |cons e l ih=>
   intro s hl hs i h;simp only[List.foldl_cons] at h;refine ih _ (λe' he'=>hl e' (List.mem_cons_of_mem _ he')) ?_ i h;intro i h
   by_cases hb:Region.binds .any e=true
   ·simp only[hb,if_true,Nat.testBit_or,Bool.or_eq_true] at h
    rcases h with(h|h)|h
    ·exact hs i h
    ·have:i=e.on:=by
      rw[Nat.one_shiftLeft,Nat.testBit_two_pow] at h;have:=of_decide_eq_true h;omega
     subst this;exact .edge hj (hl e (List.mem_cons_self ..)) hb
    ·exact .trans (hm _ _ h) hj (hl e (List.mem_cons_self ..)) hb
   ·simp only[hb] at h
    exact hs i h
 intro i h;exact this o.after.toList 0 (λe he=>Array.mem_toList_iff.1 he) (λi h=>by simp at h) i h
theorem pj {ops:List Oper}:∀ (l:List Oper) (ms:List Nat),(∀ k,l[k]? =ops[ms.length+k]?)→(∀ k i,(ms.getD k 0).testBit i=true→Anc ops i k)→
 ∀ k i,((xh l ms).getD k 0).testBit i=true→Anc ops i k
 |[],ms,_,hm=>hm
 |o::l,ms,hl,hm=>by
  have h0:ops[ms.length]? =some o:=by simpa using(hl 0).symm
  refine pj l (ms++[AQ ms o]) (λk=>?_) ?_
  ·have:=hl (k+1)
   simp only[List.length_append,List.length_cons,List.length_nil];rw[show ms.length+(0+1)+k=ms.length+(k+1) by omega]
   simpa using this
  ·intro k i h
   rcases Nat.lt_trichotomy k ms.length with hk|hk|hk
   ·refine hm k i ?_
    simpa [List.getD,List.getElem?_append_left hk] using h
   ·subst hk
    refine Bq h0 hm i ?_
    simpa [List.getD] using h
   ·exfalso
    rw[List.getD,List.getElem?_eq_none (by simp;omega)] at h;simp at h
def qD (ops:List Oper)(o:Oper):List Nat:=
 (o.op.operands.toList.filterMap fun| .tmp t=>some t|_=>none)++(match o.guard with|some (g,_)=>(pw ops g).toList|none=>[])
def nM (a b:List Nat):Bool:=a.all λx=>!b.contains x
def gC (ops:List Oper)(oi oj:Oper)(ti tj:List Nat×List Nat×Nat):Bool:=
 nM oi.dst.toList (qD ops oj)&&nM oi.dst.toList oj.dst.toList&&nM oj.dst.toList (qD ops oi)&&nM ti.1 tj.2.1&&nM tj.1 ti.2.1&&nM ti.1 tj.1
def gq (ops:List Oper)(mask:Nat)(oj:Oper)(tj:List Nat×List Nat×Nat):Nat→List Oper→Tr→Bool
 |_,[],_=>true
 |i,oi::os,t::ts=>(mask.testBit i||gC ops oi oj t tj)&&gq ops mask oj tj (i+1) os ts
 |_,_::_,[]=>false
def i8 (ops:List Oper)(tr:Tr)(masks:List Nat):Nat→List Oper→Tr→Bool
 |_,[],[]=>true
 |j,o::os,t::ts=>t.2.2 == 0&&(o.after.all λe=>!Region.binds .any e||e.on<j)&&gq ops (masks.getD j 0) o t 0 (ops.take j) (tr.take j)&&i8 ops tr masks (j+1) os ts
 |_,_,_=>false
def mK (ops:List Oper)(tr:Tr):Bool:=i8 ops tr (xh ops []) 0 ops tr
theorem qz {ops:List Oper}{mask:Nat}{oj:Oper}{tj:List Nat×List Nat×Nat}:∀ {i0:Nat} {os:List Oper} {ts:Tr},gq ops mask oj tj i0 os ts=true→
 ∀ (i:Nat) (oi:Oper),os[i]? =some oi→∃ ti,ts[i]? =some ti∧(mask.testBit (i0+i)=true∨gC ops oi oj ti tj=true)
 |_,[],_,_,i,oi,hi=>by simp at hi
 |i0,o::os,t::ts,h,0,oi,hi=>by
  simp only[gq,Bool.and_eq_true,Bool.or_eq_true] at h;simp at hi;subst hi;exact⟨t,rfl,h.1⟩
 |i0,o::os,t::ts,h,i+1,oi,hi=>by
  simp only[gq,Bool.and_eq_true] at h;obtain⟨ti,h1,h2⟩:=qz h.2 i oi (by simpa using hi);exact⟨ti,by simpa using h1,by rw[show i0+(i+1)=i0+1+i by omega];exact h2⟩
 |_,_::_,[],h,_,_,_=>by cases h
theorem r7 {ops:List Oper}{tr:Tr}{masks:List Nat}:∀ {j0:Nat} {os:List Oper} {ts:Tr},i8 ops tr masks j0 os ts=true→
 os.length=ts.length∧∀ (j:Nat) (oj:Oper) (tj:List Nat×List Nat×Nat),os[j]? =some oj→ts[j]? =some tj→tj.2.2=0∧(∀ e,e∈oj.after→Region.binds .any e=true→e.on<j0+j)∧gq ops (masks.getD (j0+j) 0) oj tj 0 (ops.take (j0+j)) (tr.take (j0+j))=true
 |_,[],[],_=>⟨rfl,λj oj tj h=>by simp at h⟩
 |j0,o::os,t::ts,h=>by
  simp only[i8,Bool.and_eq_true,beq_iff_eq] at h;obtain⟨⟨⟨h1,h2⟩,h3⟩,h4⟩:=h;obtain⟨h5,h6⟩:=r7 h4;refine⟨by simp[h5],λj oj tj ho ht=>?_⟩
  cases j with
  |zero=>
   simp at ho ht;subst ho ht;refine⟨h1,λe he hb=>?_,h3⟩;have:=Array.all_eq_true'.1 h2 e he;simp only[hb,Bool.not_true,Bool.false_or,decide_eq_true_eq] at this;exact this
  |succ j=>
   have:=h6 j oj tj (by simpa using ho) (by simpa using ht);rw[show j0+(j+1)=j0+1+j by omega];exact this
 |_,[],_::_,h=>by cases h
 |_,_::_,[],h=>by cases h
theorem KC {ops:List Oper}{tr:Tr}(h:mK ops tr=true):
 ops.length=tr.length∧(∀ (j:Nat) (tj:List Nat×List Nat×Nat),tr[j]? =some tj→tj.2.2=0)∧(∀ (j:Nat) (oj:Oper) (e:Edge),ops[j]? =some oj→e∈oj.after→Region.binds .any e=true→e.on<j)∧
 ∀ (i j:Nat) (oi oj:Oper) (ti tj:List Nat×List Nat×Nat),i<j→ops[i]? =some oi→ops[j]? =some oj→tr[i]? =some ti→tr[j]? =some tj→Anc ops i j∨gC ops oi oj ti tj=true:=by
 obtain⟨h1,h2⟩:=r7 h;simp only[Nat.zero_add] at h2;have hget:∀ (j:Nat) (tj:List Nat×List Nat×Nat),tr[j]? =some tj→∃ oj,ops[j]? =some oj:=λj tj ht=>by
  have hlt:j<tr.length:=(Δ.1 ht).1;exact⟨ops[j]'ω,List.getElem?_eq_getElem ω⟩
 have hget':∀ (j:Nat) (oj:Oper),ops[j]? =some oj→∃ tj,tr[j]? =some tj:=λj oj ht=>by
  have hlt:j<ops.length:=(Δ.1 ht).1;exact⟨tr[j]'ω,List.getElem?_eq_getElem ω⟩
 refine⟨h1,λj tj ht=>?_,λj oj e ho he hb=>?_,λi j oi oj ti tj hij ho1 ho2 ht1 ht2=>?_⟩
 ·obtain⟨oj,ho⟩:=hget j tj ht
  exact(h2 j oj tj ho ht).1
 ·obtain⟨tj,ht⟩:=hget' j oj ho
  exact(h2 j oj tj ho ht).2.1 e he hb
 ·have h3:=(h2 j oj tj ho2 ht2).2.2
  obtain⟨ti',h4,h5⟩:=qz h3 i oi (by rw[List.getElem?_take_of_lt hij];exact ho1);rw[List.getElem?_take_of_lt hij,ht1] at h4
  cases h4
  simp only[Nat.zero_add] at h5;rcases h5 with h5|h5
  ·exact .inl (pj ops [] (λk=>by simp) (λk i h=>by simp at h) j i h5)
  ·exact .inr h5
theorem xV {a a' b b':List Nat}(ha:∀ x,x∈a→x∈a')(hb:∀ x,x∈b→x∈b')(h:nM a' b'=true):nM a b=true:=by
 refine List.all_eq_true.2 λx hx=>?_;have:=List.all_eq_true.1 h x (ha x hx);simp only[Bool.not_eq_true',List.contains_eq_mem,decide_eq_false_iff_not] at this⊢;exact λh=>this (hb x h)
theorem LH {ops:List Oper}{oi oj:Oper}{ti tj ti' tj':List Nat×List Nat×Nat}(hi:xB ti ti')(hj:xB tj tj')(h:gC ops oi oj ti' tj'=true):gC ops oi oj ti tj=true:=by
 simp only[gC,Bool.and_eq_true] at*;obtain⟨⟨⟨⟨⟨h1,h2⟩,h3⟩,h4⟩,h5⟩,h6⟩:=h;exact⟨⟨⟨⟨⟨h1,h2⟩,h3⟩,xV hi.1 hj.2.1 h4⟩,xV hj.1 hi.2.1 h5⟩,xV hi.1 hj.1 h6⟩
theorem wy {ops:List Oper}{mask:Nat}{oj:Oper}{tj tj':List Nat×List Nat×Nat}(hj:xB tj tj'):∀ {i0:Nat} {os:List Oper} {ts ts':Tr},TLE ts ts'→gq ops mask oj tj' i0 os ts'=true→gq ops mask oj tj i0 os ts=true
 |_,[],_,_,_,_=>by simp[gq]
 |i0,o::os,t::ts,t'::ts',⟨h1,h2⟩,h=>by
  simp only[gq,Bool.and_eq_true,Bool.or_eq_true] at*;exact⟨h.1.imp id (LH h1 hj),wy hj h2 h.2⟩
 |_,_::_,[],[],_,h=>by simp[gq] at h
 |_,_::_,[],_::_,h,_=>h.elim
 |_,_::_,_::_,[],h,_=>h.elim
theorem TLE.take:∀ {a b:Tr} (n:Nat),TLE a b→TLE (a.take n) (b.take n):=λn h=>bv.take n h
theorem vw {ops:List Oper}{masks:List Nat}{tr tr':Tr}(htr:TLE tr tr'):∀ {j0:Nat} {os:List Oper} {ts ts':Tr},TLE ts ts'→i8 ops tr' masks j0 os ts'=true→i8 ops tr masks j0 os ts=true
 |_,[],[],[],_,_=>rfl
 |j,o::os,t::ts,t'::ts',⟨h1,h2⟩,h=>by
  simp only[i8,Bool.and_eq_true,beq_iff_eq] at*;obtain⟨⟨⟨k1,k2⟩,k3⟩,k4⟩:=h;exact⟨⟨⟨by have:=h1.2.2;omega,k2⟩,wy h1 (htr.take j) k3⟩,vw htr h2 k4⟩
 |_,[],[],_::_,h,_=>h.elim
 |_,[],_::_,[],h,_=>h.elim
 |_,[],_::_,_::_,_,h=>by simp[i8] at h
 |_,_::_,[],[],_,h=>by simp[i8] at h
 |_,_::_,[],_::_,h,_=>h.elim
 |_,_::_,_::_,[],h,_=>h.elim
theorem Lr {ops:List Oper}{tr tr':Tr}(h:TLE tr tr')(k:mK ops tr'=true):mK ops tr=true:=vw h h k
def fold (sel:Nat→Bool):Nat→List (Oper×Out)→St→St
 |_,[],s=>s
 |i,x::r,s=>fold sel (i+1) r (if sel i then put s x.1 x.2 else s)
theorem oU {t:Nat}:∀ {l:List (Oper×Out)} {i0:Nat} {sel sel':Nat→Bool} {s s':St},lkp s.env t=lkp s'.env t→
 (∀ (i:Nat) (x:Oper×Out),l[i]? =some x→sel (i0+i)≠sel' (i0+i)→x.1.dst≠some t)→lkp (fold sel i0 l s).env t=lkp (fold sel' i0 l s').env t
 |[],_,_,_,_,_,h,_=>h
 |x::l,i0,sel,sel',s,s',h,hd=>by
  simp only[fold];refine oU ?_ (λi y hy hne=>hd (i+1) y (by simpa using hy) (by rw[show i0+(i+1)=i0+1+i by omega];exact hne));have h0:=hd 0 x rfl;simp only[Nat.add_zero] at h0
  by_cases hs:sel i0=sel' i0
  ·rw[hs]
   by_cases hb:sel' i0=true
   ·simp only[hb,if_true,fb,h]
   ·simp only[hb];exact h
  ·have hne:=h0 hs
   by_cases hb:sel i0=true<;>by_cases hb':sel' i0=true
   ·exact absurd (hb.trans hb'.symm) hs
   ·simp only[hb,hb',if_true,fb,hne,if_false];exact h
   ·simp only[hb,hb',if_true,fb,hne,if_false];exact h
   ·simp only[hb,hb'];exact h
theorem gI:∀ (u:List (Nat×AO)) (L:List AO),(cD L u).length=L.length
 |[],_=>rfl
 |(k,ob)::u,L=>by simp[cD,gI u]
theorem eR {k:Nat}:∀ {u:List (Nat×AO)} {L:List AO},k∉u.map (·.1)→(cD L u)[k]? =L[k]?
 |[],_,_=>rfl
 |(k',ob)::u,L,h=>by
  simp only[List.map_cons,List.mem_cons,not_or] at h;simp only[cD];rw[eR h.2,List.getElem?_set_ne (Ne.symm h.1)]
theorem ml {k:Nat}:∀ {u:List (Nat×AO)} {L L':List AO},L.length=L'.length→k∈u.map (·.1)→(cD L u)[k]? =(cD L' u)[k]?
 |[],_,_,_,h=>by simp at h
 |(k',ob)::u,L,L',hl,h=>by
  simp only[cD]
  by_cases h1:k∈u.map (·.1)
  ·exact ml (by simp[hl]) h1
  ·simp only[List.map_cons,List.mem_cons] at h
   rcases h with h|h
   ·subst h
    rw[eR h1,eR h1];simp[List.getElem?_set,hl]
   ·exact absurd h h1
theorem iG:∀ {l:List (Oper×Out)} {i0:Nat} {sel:Nat→Bool} {s:St},(∀ x,x∈l→x.2.new=[])→(fold sel i0 l s).L.length=s.L.length
 |[],_,_,_,_=>rfl
 |x::l,i0,sel,s,h=>by
  simp only[fold];rw[iG λy hy=>h y (List.mem_cons_of_mem _ hy)];split
  ·simp[put,app,h x (List.mem_cons_self ..),gI]
  ·rfl
theorem oz {k:Nat}:∀ {l:List (Oper×Out)} {i0:Nat} {sel sel':Nat→Bool} {s s':St},s.L.length=s'.L.length→s.L[k]? =s'.L[k]? →(∀ x,x∈l→x.2.new=[])→
 (∀ (i:Nat) (x:Oper×Out),l[i]? =some x→sel (i0+i)≠sel' (i0+i)→k∉x.2.upd.map (·.1))→(fold sel i0 l s).L[k]? =(fold sel' i0 l s').L[k]?
 |[],_,_,_,_,_,_,h,_,_=>h
 |x::l,i0,sel,sel',s,s',hl,h,hn,hd=>by
  simp only[fold];have hn0:=hn x (List.mem_cons_self ..);have hput:∀ s:St,(put s x.1 x.2).L=cD s.L x.2.upd:=λs=>by simp[put,app,hn0]
  refine oz ?_ ?_ (λy hy=>hn y (List.mem_cons_of_mem _ hy)) (λi y hy hne=>hd (i+1) y (by simpa using hy) (by rw[show i0+(i+1)=i0+1+i by omega];exact hne))
  ·by_cases hb:sel i0=true<;>by_cases hb':sel' i0=true<;>simp[hb,hb',hput,gI,hl]
  have h0:=hd 0 x rfl;simp only[Nat.add_zero] at h0;have hsame:(cD s.L x.2.upd)[k]? =(cD s'.L x.2.upd)[k]?:=by
   by_cases hk:k∈x.2.upd.map (·.1)
   ·exact ml hl hk
   ·rw[eR hk,eR hk,h]
  by_cases hs:sel i0=sel' i0
  ·rw[hs]
   by_cases hb:sel' i0=true
   ·simp only[hb,if_true,hput];exact hsame
   ·simp only[hb];exact h
  ·have hne:=h0 hs
   by_cases hb:sel i0=true<;>by_cases hb':sel' i0=true
   ·exact absurd (hb.trans hb'.symm) hs
   ·simp only[hb,hb',if_true,hput,eR hne];exact h
   ·simp only[hb,hb',if_true,hput,eR hne];exact h
   ·simp only[hb,hb'];exact h
theorem JW {C:Ctx}{ops:List Oper}:∀ {l:List Oper} {s s':St} {outs:List Out} {i0:Nat},LEX C ops l s outs s'→l.length=outs.length∧
 s'=fold (λ_=>true) i0 (l.zip outs) s∧
 ∀ (j:Nat) (o:Oper) (out:Out),l[j]? =some o→outs[j]? =some out→l7 C ops (fold (λi=>decide (i<i0+j)) i0 (l.zip outs) s) o out
 |[],s,s',[],_,h=>⟨rfl,h,λj o out ho=>by simp at ho⟩
 |o::l,s,s',out::outs,i0,h=>by
  obtain⟨h1,h2⟩:=h;obtain⟨h3,h4,h5⟩:=JW (i0:=i0+1) h2;refine⟨by simp[h3],by simp only[List.zip_cons_cons,fold,if_true];exact h4,λj oj outj ho hout=>?_⟩
  cases j with
  |zero=>
   simp at ho hout;subst ho hout;have:∀ (l:List (Oper×Out)) (i:Nat) (s:St),i0≤i→fold (λk=>decide (k<i0+0)) i l s=s:=by
    intro l
    induction l with
    |nil=>intros;rfl
    |cons x l ih=>intro i s hi;simp only[fold];rw[if_neg (by simp;omega)];exact ih (i+1) s ω
   rw[this _ _ _ (Nat.le_refl _)];exact h1
  |succ j=>
   have:=h5 j oj outj (by simpa using ho) (by simpa using hout);simp only[List.zip_cons_cons,fold];rw[if_pos η];rw[show i0+(j+1)=i0+1+j by omega];exact this
 |[],_,_,_::_,_,h=>h.elim
 |_::_,_,_,[],_,h=>h.elim
theorem i9 {a b:List Nat}(h:nM a b=true){x:Nat}(hx:x∈a):x∉b:=by
 have:=List.all_eq_true.1 h x hx
 simpa using this
theorem Mh {C:Ctx}{ops:List Oper}{s s':St}{outs:List Out}{Q:Exit→Act→World→Prop}(hlex:LEX C ops ops s outs s')(hord:mK ops (outs.map cQ)=true)(hd:∀ o,o∈ops→∀ d,o.dst=some d→d<C.N)
 (hq:∀ σ a w,REL C s' σ a w→Q .normal a w):∀ (fuel:Nat) (listed:Array Bool) (σ:Sig) (a:Act) (w:World),listed.size=ops.length→(listed.toList.filter (λb=>!b)).length=fuel→
 (∀ (j:Nat) (o:Oper) (e:Edge),listed[j]? =some true→ops[j]? =some o→e∈o.after→Region.binds .any e=true→listed[e.on]? =some true)→
 REL C (fold (λi=>listed.getD i false) 0 (ops.zip outs) s) σ a w→wpAny C.P .any ops.toArray Q fuel listed a w:=by
 obtain⟨hlen,hs',hstep⟩:=JW (i0:=0) hlex;simp only[Nat.zero_add] at hstep;obtain⟨ho1,ho2,ho3,ho4⟩:=KC hord;have hnew:∀ x,x∈ops.zip outs→x.2.new=[]:=λx hx=>by
  obtain⟨j,hj⟩:=List.getElem?_of_mem hx;rw[List.getElem?_zip_eq_some] at hj;have:=ho2 j (cQ x.2) (by rw[List.getElem?_map,hj.2];rfl);exact List.eq_nil_of_length_eq_zero this
 have hanc:∀ (listed:Array Bool),(∀ (j:Nat) (o:Oper) (e:Edge),listed[j]? =some true→ops[j]? =some o→e∈o.after→Region.binds .any e=true→listed[e.on]? =some true)→
  ∀ i j,Anc ops i j→listed[j]? =some true→listed[i]? =some true:=by
  intro listed hcl i j h
  induction h with
  |edge h1 h2 h3=>exact λhj=>hcl _ _ _ hj h1 h2 h3
  |trans _ h1 h2 h3 ih=>exact λhj=>ih (hcl _ _ _ hj h1 h2 h3)
 have hall:∀ (listed:Array Bool),listed.size=ops.length→(∀ j,j<ops.length→listed[j]? =some true)→s'=fold (λi=>listed.getD i false) 0 (ops.zip outs) s:=by
  intro listed hsz hl;rw[hs'];have:∀ (l:List (Oper×Out)) (i:Nat) (s:St),i+l.length≤ops.length→fold (λ_=>true) i l s=fold (λi=>listed.getD i false) i l s:=by
   intro l
   induction l with
   |nil=>intros;rfl
   |cons x l ih=>
    intro i s hi;simp only[List.length_cons] at hi;have h1:=hl i ω;have h2:listed.getD i false=true:=by simp[Array.getD_eq_getD_getElem?,h1]
    simp only[fold,h2,if_true];exact ih (i+1) _ ω
  exact this _ 0 s (by simp[hlen])
 have hready:∀ (listed:Array Bool),listed.size=ops.length→(Region.ready .any ops.toArray listed=[]→∀ j,j<ops.length→listed[j]? =some true):=by
  intro listed hsz hr j
  induction j using Nat.strongRecOn with
  |_ j ih=>
   intro hj;rcases hb:listed[j]? with _|b
   ·rw[Array.getElem?_eq_none_iff] at hb;omega
   ·cases b with
    |true=>rfl
    |false=>
     exfalso;have:j∈Region.ready .any ops.toArray listed:=by
      refine mem_ready.2 ⟨by simp[Array.getD_eq_getD_getElem?,hb],ops[j],by simp[hj],λe he hbd=>?_⟩;have hlt:=ho3 j ops[j] e (by simp[hj]) he hbd;have:=ih e.on hlt ω;simp[Array.getD_eq_getD_getElem?,this]
     rw[hr] at this
     cases this
 intro fuel
 induction fuel with
 |zero=>
  intro listed σ a w hsz hcount hcl hr;have hl:∀ j,j<ops.length→listed[j]? =some true:=by
   intro j hj;have hlt:j<listed.size:=ω;have hx:listed[j]∉listed.toList.filter (λb=>!b):=by
    rw[List.eq_nil_of_length_eq_zero hcount];simp
   rw[List.mem_filter] at hx;have hm:listed[j]∈listed.toList:=η;have:listed[j]=true:=by
    by_cases hb:listed[j]=true
    ·exact hb
    ·exact absurd ⟨hm,by simpa using hb⟩ hx
   rw[Array.getElem?_eq_getElem hlt,this]
  refine⟨?_,hq σ a w (by rw[hall listed hsz hl];exact hr)⟩;rcases hrd:Region.ready .any ops.toArray listed with _|⟨j,r⟩
  ·rfl
  ·exfalso
   have hmem:j∈Region.ready .any ops.toArray listed:=by rw[hrd];exact List.mem_cons_self ..
   obtain⟨h1,o,h2,_⟩:=mem_ready.1 hmem;have hj:j<ops.length:=by
    rw[List.getElem?_toArray] at h2;exact(Δ.1 h2).1
   simp[Array.getD_eq_getD_getElem?,hl j hj] at h1
 |succ fuel ih=>
  intro listed σ a w hsz hcount hcl hr;refine⟨λhnil=>hq σ a w (by rw[hall listed hsz (hready listed hsz hnil)];exact hr),λj hj=>?_⟩;obtain⟨h1,oj,h2,h3⟩:=mem_ready.1 hj;rw[List.getElem?_toArray] at h2;have hjl:j<ops.length:=(Δ.1 h2).1;have hjf:listed[j]? =some false:=by
   have hlt:j<listed.size:=ω;rw[Array.getElem?_eq_getElem hlt]
   simpa [Array.getD_eq_getD_getElem?,hlt] using h1
  have hout:∃ out,outs[j]? =some out:=⟨outs[j]'ω,List.getElem?_eq_getElem ω⟩
  obtain⟨out,hout⟩:=hout;have h3':∀ e,e∈oj.after→Region.binds .any e=true→listed[e.on]? =some true:=λe he hb=>by
   have:=h3 e he hb;simp only[Array.getD_eq_getD_getElem?] at this
   cases hx:listed[e.on]? with
   |none=>rw[hx] at this;cases this
   |some b=>rw[hx] at this;simp only[Option.getD_some] at this;rw[this]
  -- what is independent of j
  have hzip:∀ (i:Nat) (x:Oper×Out),(ops.zip outs)[i]? =some x→ops[i]? =some x.1∧outs[i]? =some x.2:=λi x hx=>List.getElem?_zip_eq_some.1 hx;have htr:∀ (i:Nat) (x:Oper×Out),(ops.zip outs)[i]? =some x→(outs.map cQ)[i]? =some (cQ x.2):=λi x hx=>by rw[List.getElem?_map,(hzip i x hx).2];rfl
  have htj:(outs.map cQ)[j]? =some (cQ out):=by rw[List.getElem?_map,hout];rfl
  have hbefore:∀ (i:Nat) (x:Oper×Out),i<j→(ops.zip outs)[i]? =some x→listed.getD i false=false→gC ops x.1 oj (cQ x.2) (cQ out)=true:=by
   intro i x hij hx hli;rcases ho4 i j x.1 oj _ _ hij (hzip i x hx).1 h2 (htr i x hx) htj with h|h
   ·exfalso
    have:listed[i]? =some true:=by
     cases h with
     |edge q1 q2 q3=>rw[h2] at q1;cases q1;exact h3' _ q2 q3
     |trans q0 q1 q2 q3=>rw[h2] at q1;cases q1;exact hanc listed hcl _ _ q0 (h3' _ q2 q3)
    simp[Array.getD_eq_getD_getElem?,this] at hli
   ·exact h
  have hafter:∀ (i:Nat) (x:Oper×Out),j<i→(ops.zip outs)[i]? =some x→listed.getD i false=true→gC ops oj x.1 (cQ out) (cQ x.2)=true:=by
   intro i x hij hx hli;rcases ho4 j i oj x.1 _ _ hij h2 (hzip i x hx).1 htj (htr i x hx) with h|h
   ·exfalso
    have hi:listed[i]? =some true:=by
     simp only[Array.getD_eq_getD_getElem?] at hli
     cases hx:listed[i]? with
     |none=>rw[hx] at hli;cases hli
     |some b=>rw[hx] at hli;simp only[Option.getD_some] at hli;rw[hli]
    have:=hanc listed hcl _ _ h hi;rw[hjf] at this;cases this
   ·exact h
  -- the state at j's place in the text,and now
  have hlookj:∀ t,t∈qD ops oj→lkp (fold (λi=>decide (i<j)) 0 (ops.zip outs) s).env t=lkp (fold (λi=>listed.getD i false) 0 (ops.zip outs) s).env t:=by
   intro t ht;refine oU rfl λi x hx hne hdst=>?_;simp only[Nat.zero_add] at hne;rcases Nat.lt_trichotomy i j with hij|hij|hij
   ·have hli:listed.getD i false=false:=by simpa [hij] using hne
    have:=hbefore i x hij hx hli;simp only[gC,Bool.and_eq_true] at this;exact i9 this.1.1.1.1.1 (by rw[hdst];simp) ht
   ·subst hij
    have:listed.getD i false=false:=by simp[Array.getD_eq_getD_getElem?,hjf]
    simp[this] at hne
   ·have hli:listed.getD i false=true:=by simpa [Nat.not_lt_of_lt hij] using hne
    have:=hafter i x hij hx hli;simp only[gC,Bool.and_eq_true] at this;exact i9 this.1.1.1.2 (by rw[hdst];simp) ht
  have hobjj:∀ k,k∈out.fp→(fold (λi=>listed.getD i false) 0 (ops.zip outs) s).L[k]? =(fold (λi=>decide (i<j)) 0 (ops.zip outs) s).L[k]?:=by
   intro k hk;refine oz rfl rfl hnew λi x hx hne hmem=>?_;simp only[Nat.zero_add] at hne;rcases Nat.lt_trichotomy i j with hij|hij|hij
   ·have hli:listed.getD i false=false:=by simpa [hij] using hne
    have:=hbefore i x hij hx hli;simp only[gC,Bool.and_eq_true] at this;exact i9 this.1.1.2 hmem hk
   ·subst hij
    have:listed.getD i false=false:=by simp[Array.getD_eq_getD_getElem?,hjf]
    simp[this] at hne
   ·have hli:listed.getD i false=true:=by simpa [Nat.not_lt_of_lt hij] using hne
    have:=hafter i x hij hx hli;simp only[gC,Bool.and_eq_true] at this;exact i9 this.1.2 hmem hk
  have hsel:∀ i,(listed.setIfInBounds j true).getD i false=if i=j then true else listed.getD i false:=by
   intro i;simp only[Array.getD_eq_getD_getElem?,Array.getElem?_setIfInBounds]
   by_cases e:j=i
   ·subst e;simp[hsz,hjl]
   ·simp[e,Ne.symm e]
  have hnext:EQ (put (fold (λi=>listed.getD i false) 0 (ops.zip outs) s) oj out) (fold (λi=>(listed.setIfInBounds j true).getD i false) 0 (ops.zip outs) s):=by
   have hxj:(ops.zip outs)[j]? =some (oj,out):=List.getElem?_zip_eq_some.2 ⟨h2,hout⟩
   -- stop at j
   have hstop:∀ (l:List (Oper×Out)) (i0:Nat) (s:St),l[j-i0]? =some (oj,out)→i0≤j→
    fold (λi=>decide (i≤j)&&(if i=j then true else listed.getD i false)) i0 l s=put (fold (λi=>decide (i<j)&&listed.getD i false) i0 l s) oj out:=by
    intro l
    induction l with
    |nil=>intro i0 s h;simp at h
    |cons x l ih2=>
     intro i0 s h hle;simp only[fold];rcases Nat.lt_or_ge i0 j with hlt|hge
     ·have e1:(decide (i0≤j)&&(if i0=j then true else listed.getD i0 false))=(decide (i0<j)&&listed.getD i0 false):=by
       simp[hle,hlt,show i0≠j by omega]
      simp only[e1];refine ih2 (i0+1) _ ?_ ω;rw[show j-i0=(j-(i0+1))+1 by omega] at h
      simpa using h
     ·have e0:i0=j:=by omega
      subst e0;simp at h;subst h;simp only[Nat.le_refl,decide_true,Bool.true_and,if_true,Nat.lt_irrefl,decide_false,Bool.false_and,Bool.false_eq_true,if_false];have:∀ (l:List (Oper×Out)) (i:Nat) (s:St),i0<i→fold (λi=>decide (i≤i0)&&(if i=i0 then true else listed.getD i false)) i l s=s∧fold (λi=>decide (i<i0)&&listed.getD i false) i l s=s:=by
       intro l
       induction l with
       |nil=>intros;exact⟨rfl,rfl⟩
       |cons y l ih3=>
        intro i s hi;simp only[fold];have f1:decide (i≤i0)=false:=by simp;omega
        have f2:decide (i<i0)=false:=by simp;omega
        simp only[f1,f2,Bool.false_and,Bool.false_eq_true,if_false];exact ih3 (i+1) s ω
      rw[(this l (i0+1) _ ω).1,(this l (i0+1) _ ω).2]
   have hst:=hstop (ops.zip outs) 0 s (by simpa using hxj) (Nat.zero_le _)
   constructor
   ·intro t
    rw[fb]
    by_cases hdt:oj.dst=some t
    ·rw[if_pos hdt]
     have e1:lkp (fold (λi=>decide (i≤j)&&(if i=j then true else listed.getD i false)) 0 (ops.zip outs) s).env t=lkp (fold (λi=>(listed.setIfInBounds j true).getD i false) 0 (ops.zip outs) s).env t:=by
      refine oU rfl λi x hx hne hdst=>?_;simp only[Nat.zero_add,hsel] at hne;rcases Nat.lt_trichotomy i j with hij|hij|hij
      ·simp[Nat.le_of_lt hij] at hne
      ·simp[hij] at hne
      ·have hli:listed.getD i false=true:=by simpa [Nat.not_le_of_lt hij,Nat.ne_of_gt hij] using hne
       have:=hafter i x hij hx hli;simp only[gC,Bool.and_eq_true] at this;exact i9 (x:=t) this.1.1.1.1.2 (by rw[hdt];simp) (by rw[hdst];simp)
     rw[← e1,hst,fb,if_pos hdt]
    ·rw[if_neg hdt]
     refine oU rfl λi x hx hne hdst=>?_;simp only[Nat.zero_add,hsel] at hne
     by_cases hij:i=j
     ·subst hij
      rw[hxj] at hx;cases hx;exact hdt hdst
     ·simp[hij] at hne
   ·have hnj:out.new=[]:=hnew (oj,out) (List.mem_of_getElem? hxj)
    apply List.ext_getElem?;intro k;have hputL:∀ s:St,(put s oj out).L=cD s.L out.upd:=λs=>by simp[put,app,hnj]
    by_cases hk:k∈out.upd.map (·.1)
    ·have e1:(fold (λi=>decide (i≤j)&&(if i=j then true else listed.getD i false)) 0 (ops.zip outs) s).L[k]? =(fold (λi=>(listed.setIfInBounds j true).getD i false) 0 (ops.zip outs) s).L[k]?:=by
      refine oz rfl rfl hnew λi x hx hne hmem=>?_;simp only[Nat.zero_add,hsel] at hne;rcases Nat.lt_trichotomy i j with hij|hij|hij
      ·simp[Nat.le_of_lt hij] at hne
      ·simp[hij] at hne
      ·have hli:listed.getD i false=true:=by simpa [Nat.not_le_of_lt hij,Nat.ne_of_gt hij] using hne
       have:=hafter i x hij hx hli;simp only[gC,Bool.and_eq_true] at this;exact i9 this.2 hk hmem
     rw[← e1,hst,hputL,hputL];exact ml (by rw[iG hnew,iG hnew]) hk
    ·rw[hputL,eR hk]
     refine oz rfl rfl hnew λi x hx hne hmem=>?_;simp only[Nat.zero_add,hsel] at hne
     by_cases hij:i=j
     ·subst hij
      rw[hxj] at hx;cases hx;exact hk hmem
     ·simp[hij] at hne
  have hcount':((listed.setIfInBounds j true).toList.filter (λb=>!b)).length=fuel:=by
   have:∀ (l:List Bool) (j:Nat),l[j]? =some false→((l.set j true).filter (λb=>!b)).length+1=(l.filter (λb=>!b)).length:=by
    intro l
    induction l with
    |nil=>intro j h;simp at h
    |cons b l ih4=>
     intro j h
     cases j with
     |zero=>simp at h;subst h;simp
     |succ j=>
      have h5:=ih4 j (by simpa using h)
      cases b
      ·simp only[List.set_cons_succ,List.filter_cons,Bool.not_false,if_true,List.length_cons];omega
      ·simp only[List.set_cons_succ,List.filter_cons,Bool.not_true,Bool.false_eq_true,if_false];exact h5
   have h4:=this listed.toList j (by rw[Array.getElem?_toList];exact hjf);rw[Array.toList_setIfInBounds];omega
  have hcl':∀ (j':Nat) (o:Oper) (e:Edge),(listed.setIfInBounds j true)[j']? =some true→ops[j']? =some o→e∈o.after→Region.binds .any e=true→(listed.setIfInBounds j true)[e.on]? =some true:=by
   intro j' o e hj' ho he hb;have hmono:∀ k,listed[k]? =some true→(listed.setIfInBounds j true)[k]? =some true:=λk hk=>by
    rw[Array.getElem?_setIfInBounds];split
    ·rename_i e;subst e;rw[hjf] at hk;cases hk
    ·exact hk
   by_cases e':j'=j
   ·subst e'
    rw[h2] at ho;cases ho;exact hmono _ (h3' e he hb)
   ·rw[Array.getElem?_setIfInBounds,if_neg (Ne.symm e')] at hj'
    exact hmono _ (hcl j' o e hj' ho he hb)
  have hreads:∀ x,x∈oj.op.operands→ev (fold (λi=>decide (i<j)) 0 (ops.zip outs) s).env x=ev (fold (λi=>listed.getD i false) 0 (ops.zip outs) s).env x:=by
   intro x hx
   cases x with
   |tmp t=>exact hlookj t (List.mem_append.2 (.inl (List.mem_filterMap.2 ⟨.tmp t,Array.mem_toList_iff.2 hx,rfl⟩)))
   |_=>rfl
  have hgv:gval ops (fold (λi=>decide (i<j)) 0 (ops.zip outs) s).env oj=gval ops (fold (λi=>listed.getD i false) 0 (ops.zip outs) s).env oj:=by
   unfold gval
   cases hg:oj.guard with
   |none=>rfl
   |some g=>
    obtain⟨g,want⟩:=g;simp only
    cases hgd:pw ops g with
    |none=>rfl
    |some d=>
     simp only;rw[hlookj d (by simp[qD,hg,hgd])]
  have hst:=hstep j oj out h2 hout;have hdj:=hd oj (List.mem_of_getElem? h2);unfold wpOp;rw[List.getElem?_toArray,h2];simp only;rcases hst with⟨hg,hgood⟩|⟨hg,rfl⟩
  ·rw[hgv] at hg
   rw[mA hg hr.bools];refine .inl (iC (hgood _ σ w a.eval hr.inv (λx hx=>by rw[hreads x hx];exact hr.ev x) hobjj (by rw[iG hnew,iG hnew])) λv w' hdone=>?_);obtain⟨σ',hr'⟩:=hr.put hdj hdone;exact ih _ σ' _ _ (by simp[hsz]) hcount' hcl' (hr'.eq hnext)
  ·rw[hgv] at hg
   rw[mA hg hr.bools];exact ih _ σ _ _ (by simp[hsz]) hcount' hcl' ((hr.skip hdj).eq hnext)
end Go.AV
