/- Part of the proof. -/
import Derived.Test.YtiedpcchhicifaaGreatDoorLf
set_option linter.unusedSimpArgs false
set_option linter.unusedVariables false
open List renaming getElem?_eq_some_iff→Δ
open Option.some renaming injEq→Λ
open Nat renaming le_refl→Υ
namespace Go.AV
open Go Go.RowKit
theorem pa {P:Program}(w:World)(base:Nat)(t ty e:TypeId)(i:TypeInfo)(size:Nat)(ht:P.underlying t=some (.slice e))(hi:P.info? e=some i)
 (v:Value) (n:Nat) (xs:List Value) (hown:w.ownsRow base e size v n xs) (A:Option Addr) (c:Nat) (hA:A=none∨True):(Builtin.append_ #[t,t] ty #[v,.slice A 0 c]).run P w= .ok v w:=by
 rcases hown.2 with⟨rfl,rfl⟩|⟨g,cap,cur,rfl,_,_,hnc,_⟩
 ·cases A<;>simp[Builtin.append_,run_underlying ht,sizeOf,typeInfo,hi,Builtin.lenOf,Builtin.firstCells,loadCells,loadCellsFrom]
 ·cases A<;>simp[Builtin.append_,run_underlying ht,sizeOf,typeInfo,hi,Builtin.lenOf,Builtin.firstCells,hnc,storeCells,loadCells,loadCellsFrom]
theorem Dat.oneCell {av:Nat→Prop}{w:World}:∀ {t:Ty} {d:t.den} {cs:List Value},Dat av w t d cs→∀ u,u∈cs→u.oneCell'=true
 | .int _,_,_,h,u,hu=>by simp only[Dat] at h;subst h;simp at hu;subst hu;rfl
 | .bool,_,_,h,u,hu=>by simp only[Dat] at h;subst h;simp at hu;subst hu;rfl
 | .str,_,_,h,u,hu=>by simp only[Dat] at h;subst h;simp at hu;subst hu;rfl
 | .unit,_,_,h,u,hu=>by simp only[Dat] at h;subst h;cases hu
 | .list _,_,_,h,u,hu=>by simp only[Dat] at h;obtain⟨A,c,rfl,_⟩:=h;simp at hu;subst hu;rfl
 | .pair a b,(x,y),cs,h,u,hu=>by
   simp only[Dat] at h;obtain⟨c1,c2,rfl,h1,h2⟩:=h;rcases List.mem_append.1 hu with hu|hu
   ·exact h1.oneCell u hu
   ·exact h2.oneCell u hu
theorem oK {av:Nat→Prop}{w:World}{t:Ty}{xs:List t.den}{b o:Nat}(h0:0<t.size)
 (h:∀ i,i<xs.length→∃ cs':List Value,cs'.length=t.size∧(∀ j,j<t.size→w.cell? ⟨b,o+i*t.size+j,none⟩=cs'[j]?)∧Dat av w t (xs.getD i t.dflt) cs'):
 ∃ news:List Value,news.length=xs.length*t.size∧(∀ j u,news[j]? =some u→w.cell? ((⟨b,o,none⟩:Addr).add j)=some u)∧(∀ u∈news,u.oneCell'=true)∧
   ∀ i,i<xs.length→Dat av w t (xs.getD i t.dflt) ((news.drop (i*t.size)).take t.size):=by
 refine⟨(List.range (xs.length*t.size)).map λj=>(w.cell? ⟨b,o+j,none⟩).getD undef,η,?_,?_,?_⟩
 ·intro j u hu
  have hj:j<xs.length*t.size:=by have:=(Δ.1 hu).1;simpa using this
  have hi:j / t.size<xs.length:=by rw[Nat.div_lt_iff_lt_mul h0];exact hj
  obtain⟨cs',hl,hc,hd⟩:=h _ hi;have hm:j % t.size<t.size:=Nat.mod_lt _ h0;have hcell:=hc _ hm;have he:o+j / t.size*t.size+j % t.size=o+j:=by have:=Nat.div_add_mod j t.size;rw[Nat.mul_comm] at this;omega
  rw[he,List.getElem?_eq_getElem ω] at hcell;rw[add_lit,hcell];rw[List.getElem?_map,List.getElem?_range hj] at hu
  simpa [hcell] using hu
 ·intro u hu
  obtain⟨j,hj,rfl⟩:=List.mem_map.1 hu;have hj:j<xs.length*t.size:=by simpa using hj
  have hi:j / t.size<xs.length:=by rw[Nat.div_lt_iff_lt_mul h0];exact hj
  obtain⟨cs',hl,hc,hd⟩:=h _ hi;have hm:j % t.size<t.size:=Nat.mod_lt _ h0;have hcell:=hc _ hm;have he:o+j / t.size*t.size+j % t.size=o+j:=by have:=Nat.div_add_mod j t.size;rw[Nat.mul_comm] at this;omega
  rw[he,List.getElem?_eq_getElem ω] at hcell;rw[hcell];exact hd.oneCell _ (List.getElem_mem _)
 ·intro i hi
  obtain⟨cs',hl,hc,hd⟩:=h i hi;have hm:(i+1)*t.size≤xs.length*t.size:=Nat.mul_le_mul_right _ hi;rw[Nat.add_mul,Nat.one_mul] at hm;have:((((List.range (xs.length*t.size)).map λj=>(w.cell? ⟨b,o+j,none⟩).getD undef).drop (i*t.size)).take t.size)=cs':=by
   apply List.ext_getElem?;intro j;rw[List.getElem?_take]
   by_cases hj:j<t.size
   ·rw[if_pos hj,List.getElem?_drop,List.getElem?_map,List.getElem?_range ω]
    have hcell:=hc j hj;rw[Nat.add_assoc] at hcell;simp only[Option.map_some,hcell];rw[List.getElem?_eq_getElem ω];rfl
   ·rw[if_neg hj,List.getElem?_eq_none ω]
  rw[this];exact hd
section
variable {C:Ctx} {L0:List AO} {o:Oper} {opn:Operand→AV}
def di (t:Ty):AC→Option (List t.den)
 | .list t' xs=>if h:t'=t then some (h▸xs) else none
 | .nils=>some []
 | .emp=>some []
 |_=>none
theorem qF {L:List AO}{σ:Sig}{w:World}{t:Ty}{c:AC}{ys:List t.den}{u:Value}(h:di t c=some ys)(hc:RC C L σ w c u):Dat (avd C L σ) w (.list t) ys [u]:=by
 cases c with
 |list t' xs=>
  simp only[di] at h;split at h
  ·rename_i e;subst e
   simp only[Λ] at h;subst h;exact hc.2
  ·cases h
 |nils=>
  simp only[di,Λ] at h;subst h;have e:u= .slice none 0 0:=hc.2;subst e;exact fA t
 |emp=>
  simp only[di,Λ] at h;subst h;obtain⟨a,c,e,hcm⟩:=hc.2;subst e;simp only[Dat];exact⟨_,c,rfl,Nat.zero_le _,⟨hcm,λh=>by cases h⟩,λh=>absurd h η⟩
 |_=>simp[di] at h
theorem uh {L:List AO}{σ:Sig}{w:World}{T e:TypeId}{td te:TD}{t:Ty}(ht:aN C.P T=some td)(hk:td.k= .slice e)(hte:aN C.P e=some te)(hsz:te.size=t.size)(hz:te.zero.length=t.size)(h0:0<t.size)
 {v u:Value} {xs ys:List t.den} {flat:List Value} (hown:w.ownsRow 0 e t.size v xs.length flat) (hd:Dat (avd C L σ) w (.list t) ys [u])
 (hlen:(xs.length+ys.length)*te.bytes≤140737488355328) (hml:xs.length+ys.length≤9223372036854775807) (ty:TypeId):
 ∃ v' w' flat',(Builtin.append_ #[T,T] ty #[v,u]).run C.P w= .ok v' w'∧w'.ownsRow 0 e t.size v' (xs++ys).length flat'∧w.grownBy w' v.ownBlock∧
   (v'.ownBlock=v.ownBlock∨v'.ownBlock=some w.heap.size)∧
   (∀ i,i<xs.length→(flat'.drop (i*t.size)).take t.size=(flat.drop (i*t.size)).take t.size)∧
   (∀ i,i<ys.length→Dat (avd C L σ) w t (ys.getD i t.dflt) ((flat'.drop ((xs.length+i)*t.size)).take t.size)):=by
 obtain⟨d,i,z,h1,h2,h3,h4,h5,h6,h7⟩:=cU ht;rw[hk] at h7;have:=bW h7;subst this;obtain⟨d',ie,ze,g1,g2,g3,g4,g5,g6,g7⟩:=cU hte;have hzs:ze.cells.size=t.size:=by
  have:∀ (vs:List Value) (cs:List AC),j8 vs=some cs→vs.length=cs.length:=by
   intro vs
   induction vs with
   |nil=>intro cs h;simp only[j8,Λ] at h;subst h;rfl
   |cons v vs ih=>
    intro cs h;simp only[j8] at h;split at h
    ·rename_i c cs' _ h'
     simp only[Λ] at h;subst h;simp[ih _ h']
    ·cases h
  have:=this _ _ g4;rw[Array.length_toList] at this;rw[this,hz]
 obtain⟨A,c,e1,k1,k2,k3⟩:=hd;simp only[List.cons.injEq,and_true] at e1;subst e1;have hfl:=hown.1;rcases Nat.eq_zero_or_pos ys.length with hy|hy
 ·have hys:ys=[]:=List.eq_nil_of_length_eq_zero hy
  subst hys;refine⟨v,w,flat,pa w 0 T ty e ie t.size h1 g2 v _ flat hown A c (.inr trivial),by simpa using hown,World.grownBy.refl w _,.inl rfl,λ_ _=>rfl,λi hi=>by simp at hi⟩
 ·obtain⟨b,o1,rfl,k4,k5,k6⟩:=k3 hy
  obtain⟨news,n1,n2,n3,n4⟩:=oK h0 k6;obtain⟨v',w',r1,r2,r3,_,r5⟩:=run_append_own_at (P:=C.P) w 0 T ty e ie ze t.size te.bytes h1 g2 g3 (by rw[g5,hsz]) g6 hzs h0 v xs.length flat hown ⟨b,o1,none⟩ ys.length c news n1 n2 n3 (by simp only[maxLen];omega) hlen (Nat.zero_le _);refine⟨v',w',flat++news,r1,by simpa using r2,r3,r5,λi hi=>?_,λi hi=>?_⟩
  ·have hm:(i+1)*t.size≤xs.length*t.size:=Nat.mul_le_mul_right _ hi
   rw[Nat.add_mul,Nat.one_mul] at hm;rw[List.drop_append_of_le_length ω,List.take_append_of_le_length (by simp;omega)]
  ·have:(flat++news).drop ((xs.length+i)*t.size)=news.drop (i*t.size):=by
    rw[Nat.add_mul,← hfl,List.drop_append,List.drop_eq_nil_of_le ω];simp
   rw[this];exact n4 i hi
theorem gE {v:Value}(h:(∀ a,v≠.pointer a)∧∀ b,v≠.map b):blk v=v.ownBlock:=by
 cases v<;>first|rfl|(rename_i a;exact absurd rfl (h.1 a))|(rename_i a;exact absurd rfl (h.2 a))|skip
 rename_i a _ _
 cases a<;>rfl
theorem dX {w:World}{base:Nat}{e:TypeId}{size:Nat}{v:Value}{n:Nat}{xs:List Value}(h:w.ownsRow base e size v n xs):(∀ a,v≠.pointer a)∧∀ b,v≠.map b:=by
 rcases h.2 with⟨rfl,_⟩|⟨g,cap,cur,rfl,_⟩<;>refine⟨λa h=>?_,λb h=>?_⟩<;>cases h
theorem BH {T e:TypeId}{td te:TD}{x y:Operand}{ats:Array TypeId}{k ver:Nat}{t:Ty}{xs ys:List t.den}{c:AC}(ho:o.op= .call {callee:=.builtin .append,args:=#[x,y],argTypes:=ats})(ha:ats= #[T,T])
 (ht:aN C.P T=some td) (hk:td.k= .slice e) (hte:aN C.P e=some te) (hsz:te.size=t.size) (hz:te.zero.length=t.size)
 (hx':opn x= .one (.row k ver)) (hob:L0[k]? =some (.row t e ver xs)) (hy':opn y= .one c) (hs:di t c=some ys)
 (hlen:(xs.length+ys.length)*te.bytes≤140737488355328) (hml:xs.length+ys.length≤9223372036854775807):
 bG C L0 o opn {av:=.one (.row k (ver+1)),upd:=[(k,.row t e (ver+1) (xs++ys))],fp:=[k]}:=by
 intro L σ w ρ hi hx hfp _;have hx1:=hx x (by simp[ho,Op.operands,Call.operands]);have hx2:=hx y (by simp[ho,Op.operands,Call.operands]);rw[hx'] at hx1;rw[hy'] at hx2;have hob':L[k]? =some (.row t e ver xs):=by rw[hfp k η];exact hob
 obtain⟨ob,h2,h3,h4⟩:=hx1.2;rw[hob'] at h2;cases h2;obtain⟨_,e1⟩:=h4 rfl rfl;obtain⟨flat,h5,h6,h7⟩:=hi.ob k _ hob';obtain⟨v',w',flat',r1,r2,r3,r4,r5,r6⟩:=uh ht hk hte hsz hz h6 h5 (qF hs hx2) hlen hml o.type;have hblk:blk (σ k)=(σ k).ownBlock:=gE (dX h5);have hblk':blk v'=v'.ownBlock:=gE (dX r2);simp only[ho,ha,execOp,resolve,invoke,builtin,e1,Sem.run_bind,Sem.run_pure,Result.andThen_ok,List.map_toArray,List.map_cons,List.map_nil,r1,bI];refine cI (σ':=sup σ k v') hi hob' r3.size r3.os r3.tape r3.output
  (λj hj hno=>r3.block j hj (λej=>hno ⟨_,hob',rfl,by rw[hblk];exact ej.symm⟩)) (λj hj=>d6 σ v' hj) ⟨Nat.le_succ _,λ_ h=>by simp[AO.ver] at h⟩
  (λ_ j hj=>?_) (λhp hav=>?_) (λhI _=>?_)
 ·rw[aR,hblk'] at hj
  rcases r4 with r4|r4
  ·exact .inl ⟨_,hob',rfl,by rw[hblk,← r4];exact hj⟩
  ·rw[r4] at hj
   simp only[Λ] at hj;exact .inr ω
 ·have hkeep:∀ {t':Ty} {d:t'.den} {cs:List Value},Dat (avd C L σ) w t' d cs→Dat (avd C (L.set k (.row t e (ver+1) (xs++ys))) (sup σ k v')) w' t' d cs:=λhd=>
   hd.keep r3.size (λb hb ha=>r3.block b hb (λej=>ha (.inr ⟨k,_,hob',rfl,by rw[hblk];exact ej.symm⟩))) hav
  refine⟨flat',by rw[aR];exact r2,h6,λi hil=>?_⟩
  by_cases hix:i<xs.length
  ·rw[r5 i hix]
   have:(xs++ys).getD i t.dflt=xs.getD i t.dflt:=by simp[List.getD,hix,List.getElem?_append_left hix]
   rw[this];exact hkeep (h7 i hix)
  ·have hil':i<xs.length+ys.length:=by simpa using hil
   have hj:i=xs.length+(i-xs.length):=ω;have:(xs++ys).getD i t.dflt=ys.getD (i-xs.length) t.dflt:=by simp[List.getD,List.getElem?_append_right (Nat.le_of_not_lt hix)]
   rw[this];have h8:=r6 (i-xs.length) ω;rw[← hj] at h8;exact hkeep h8
 ·have hlt:k<L.length:=(Δ.1 hob').1
  refine⟨?_,.row t e (ver+1) (xs++ys),by simp[hlt],Υ _,λ_ _=>⟨⟨_,_,_,rfl⟩,(aR _ _ _).symm⟩⟩;rcases r2.2 with⟨rfl,_⟩|⟨g,cap,cur,rfl,_⟩<;>rfl
theorem qt {T e e2:TypeId}{td te:TD}{x y:Operand}{ats:Array TypeId}{k ver k2 ver2 sz n1 n2:Nat}{cs cs2:List AC}(ho:o.op= .call {callee:=.builtin .append,args:=#[x,y],argTypes:=ats})(ha:ats= #[T,T])
 (ht:aN C.P T=some td) (hk:td.k= .slice e) (hte:aN C.P e=some te) (hsz:te.size=sz) (hz:te.zero.length=te.size) (h0:0<te.size)
 (hx':opn x= .one (.rwc k ver)) (hob:L0[k]? =some (.rowc e sz ver cs)) (hy':opn y= .one (.rwc k2 ver2)) (hob2:L0[k2]? =some (.rowc e2 sz ver2 cs2)) (hkk:k≠k2)
 (hn1:cs.length=n1*sz) (hn2:cs2.length=n2*sz) (h02:0<n2) (hlen:(n1+n2)*te.bytes≤140737488355328) (hml:n1+n2≤9223372036854775807):
 bG C L0 o opn {av:=.one (.rwc k (ver+1)),upd:=[(k,.rowc e sz (ver+1) (cs++cs2))],fp:=[k,k2]}:=by
 intro L σ w ρ hi hx hfp _;have hx1:=hx x (by simp[ho,Op.operands,Call.operands]);have hx2:=hx y (by simp[ho,Op.operands,Call.operands]);rw[hx'] at hx1;rw[hy'] at hx2;have hob':L[k]? =some (.rowc e sz ver cs):=by rw[hfp k η];exact hob
 have hob2':L[k2]? =some (.rowc e2 sz ver2 cs2):=by rw[hfp k2 η];exact hob2
 obtain⟨ob,h2,h3,h4⟩:=hx1.2;rw[hob'] at h2;cases h2;obtain⟨_,e1⟩:=h4 rfl rfl;obtain⟨ob2,q2,q3,q4⟩:=hx2.2;rw[hob2'] at q2;cases q2;obtain⟨_,e2v⟩:=q4 rfl rfl;obtain⟨flat,m1,h5,h6,h7,h8⟩:=hi.ob k _ hob';obtain⟨flat2,m2,g5,g6,g7,g8⟩:=hi.ob k2 _ hob2';have em1:m1=n1:=Nat.eq_of_mul_eq_mul_right h6 (h7.symm.trans hn1);have em2:m2=n2:=Nat.eq_of_mul_eq_mul_right h6 (g7.symm.trans hn2);subst em1 em2;obtain⟨d,i,z,t1,t2,t3,t4,t5,t6,t7⟩:=cU ht;rw[hk] at t7;have:=bW t7;subst this;obtain⟨d',ie,ze,u1,u2,u3,u4,u5,u6,u7⟩:=cU hte;have hzs:ze.cells.size=sz:=by
  have hrz:=cz (C:=C) (L:=L) (σ:=σ) (w:=w) u4;rw[← Array.length_toList,← hrz.length,hz,hsz]
 have hblk2:∃ g2 c2 cur2,σ k2= .slice (some ⟨g2,0,none⟩) m2 c2∧w.heap[g2]? =some (.cells cur2 e2 (0,0))∧m2≤c2∧c2≤maxLen∧c2*sz=cur2.size∧cur2.toList.take (m2*sz)=flat2:=by
  rcases g5.2 with⟨_,h9⟩|⟨g,cap,cur,e3,_,h10,h11,h12,h13,h14⟩
  ·omega
  ·exact⟨g,cap,cur,e3,h10,h11,h12,by first|exact h13|exact h13.symm|omega,h14⟩
 obtain⟨g2,c2,cur2,f1,f2,f3,f4,f5,f6⟩:=hblk2;have hfl2:flat2.length=m2*sz:=g5.1;obtain⟨v',w',r1,r2,r3,_,r5⟩:=run_append_own_at (P:=C.P) w 0 T o.type e ie ze sz te.bytes t1 u2 u3 (by rw[u5,hsz]) u6 hzs h6 (σ k) m1 flat h5 ⟨g2,0,none⟩ m2 c2 flat2 hfl2
  (λj u hu=>by
    have hj:=(Δ.1 hu).1;rw[← f6,List.length_take] at hj;rw[← f6,List.getElem?_take_of_lt ω] at hu;rw[add_lit,ee f2,Nat.zero_add];rw[← hu];simp) (bv.oneCell g8) (by simp only[maxLen];omega) hlen (Nat.zero_le _)
 have hblk:blk (σ k)=(σ k).ownBlock:=gE (dX h5);have hblk':blk v'=v'.ownBlock:=gE (dX r2);simp only[ho,ha,execOp,resolve,invoke,builtin,e1,e2v,f1,Sem.run_bind,Sem.run_pure,Result.andThen_ok,List.map_toArray,List.map_cons,List.map_nil,r1,bI];refine cI (σ':=sup σ k v') hi hob' r3.size r3.os r3.tape r3.output
  (λj hj hno=>r3.block j hj (λej=>hno ⟨_,hob',rfl,by rw[hblk];exact ej.symm⟩)) (λj hj=>d6 σ v' hj) ⟨Nat.le_succ _,λ_ h=>by simp[AO.ver] at h⟩
  (λ_ j hj=>?_) (λhp hav=>?_) (λhI _=>?_)
 ·rw[aR,hblk'] at hj
  rcases r5 with r5|r5
  ·exact .inl ⟨_,hob',rfl,by rw[hblk,← r5];exact hj⟩
  ·rw[r5] at hj
   simp only[Λ] at hj;exact .inr ω
 ·exact⟨flat++flat2,m1+m2,by rw[aR];exact r2,h6,by rw[List.length_append,hn1,hn2,Nat.add_mul],(h8.mono λc u hc=>hp c u hc).append (g8.mono λc u hc=>hp c u hc)⟩
 ·have hlt:k<L.length:=(Δ.1 hob').1
  refine⟨?_,.rowc e sz (ver+1) (cs++cs2),by simp[hlt],Υ _,λ_ _=>⟨⟨_,_,_,rfl⟩,(aR _ _ _).symm⟩⟩;rcases r2.2 with⟨rfl,_⟩|⟨g,cap,cur,rfl,_⟩<;>rfl
theorem MI {o:Oper}{opn:Operand→AV}{L0:List AO}{k ver:Nat}{t:Ty}{e:TypeId}{xs:List t.den}(hlt0:k<L0.length)
 (h:bG C L0 o opn {av:=.one (.row k ver),upd:=[(k,.row t e ver xs)],fp:=[k]}):bG C L0 o opn {av:=.one (.list t xs),upd:=[(k,.dead ver)],fp:=[k]}:=by
 intro L σ w ρ hi hx hfp hlen;have h0:=h L σ w ρ hi hx hfp hlen;have key:∀ v w',pd C L σ w {av:=.one (.row k ver),upd:=[(k,.row t e ver xs)],fp:=[k]} v w'→pd C L σ w {av:=.one (.list t xs),upd:=[(k,.dead ver)],fp:=[k]} v w':=by
  rintro v w' ⟨σ',h1,h2,h3⟩;have e1:app L {av:=.one (.row k ver),upd:=[(k,.row t e ver xs)],fp:=[k]}=L.set k (.row t e ver xs):=by simp[app,cD]
  have e2:app L {av:=.one (.list t xs),upd:=[(k,.dead ver)],fp:=[k]}=(L.set k (.row t e ver xs)).set k (.dead ver):=by simp[app,cD]
  rw[e1] at h1 h2 h3;have hlt:k<L.length:=ω
  generalize hL':L.set k (.row t e ver xs)=L' at h1 h2 h3 e2
  have hlt':k<L'.length:=by rw[← hL'];simpa using hlt
  have hk:L'[k]? =some (.row t e ver xs):=by rw[← hL'];simp[hlt]
  have hI:=d8 (C:=C) (L':=L'.set k (.dead ver)) (σ':=σ') (w':=w') k h1 (Υ _) rfl rfl rfl (λ_ _ _=>rfl) (λj hj=>by rw[List.getElem?_set_ne (Ne.symm hj)]) (λ_ _=>rfl)
   (λob e=>by rw[hk] at e;cases e;exact⟨.dead ver,by simp[hlt'],Υ _,λh=>by cases h⟩)
   (λb ⟨ob,e1,e2,_⟩=>by simp[hlt'] at e1;subst e1;cases e2)
   (λ_ _ ob e=>by simp[hlt'] at e;subst e;trivial)
  refine⟨σ',by rw[e2];exact hI.1,?_,by rw[e2];exact h3.trans hI.2⟩;rw[e2];obtain⟨q3,ob,q4,q5,q6⟩:=h2;rw[hk] at q4;cases q4;obtain⟨_,q7⟩:=q6 rfl rfl;refine⟨q3,?_⟩;obtain⟨flat,h8,h9,h10⟩:=h1.ob k _ hk;show Dat _ w' (.list t) xs [_];rw[q7];have hown:∀ b,avd C (L'.set k (.dead ver)) σ' b→avd C L' σ' b:=by
   rintro b (hx|⟨j,ob,e1,e2,e3⟩)
   ·exact .inl hx
   ·by_cases ej:j=k
    ·subst ej;simp[hlt'] at e1;subst e1;cases e2
    ·rw[List.getElem?_set_ne (Ne.symm ej)] at e1
     exact .inr ⟨j,ob,e1,e2,e3⟩
  rcases h8.2 with⟨e1,e2⟩|⟨g,cap,cur,e1,_,e3,e4,e5,e6,e7⟩
  ·rw[e1]
   have:xs=[]:=List.eq_nil_of_length_eq_zero e2;subst this;exact fA t
  ·rw[e1]
   refine⟨some ⟨g,0,none⟩,cap,rfl,e4,⟨e5,λh=>by cases h⟩,λ_=>⟨g,0,rfl,?_,(Array.getElem?_eq_some_iff.1 e3).1,λi hi=>⟨_,(h10 i hi).length,λj hj=>?_,(h10 i hi).keep (Υ _) (λ_ _ _=>rfl) (λb _ hb=>hown b hb)⟩⟩⟩
   ·have hg:own L' σ' k g:=⟨_,hk,rfl,by rw[e1];rfl⟩
    rintro(hx|⟨j,ob,q1,q2,q3⟩)
    ·exact(h1.off k g hg).2 hx
    ·by_cases ej:j=k
     ·subst ej;simp[hlt'] at q1;subst q1;cases q2
     ·rw[List.getElem?_set_ne (Ne.symm ej)] at q1
      exact ej (h1.inj j k g ⟨ob,q1,q2,q3⟩ hg)
   ·have hm:(i+1)*t.size≤xs.length*t.size:=Nat.mul_le_mul_right _ hi
    rw[Nat.add_mul,Nat.one_mul] at hm;rw[ee e3,List.getElem?_take_of_lt hj,List.getElem?_drop,← e7,List.getElem?_take_of_lt ω];simp
 generalize (execOp ρ o).run C.P w=r at h0⊢
 cases r with
 |halt x w'=>exact h0
 |ok n w'=>
  cases n<;>simp only[bI] at h0⊢
  case value v=>exact key v w' h0
  case skip=>exact key _ w' h0
  case enter f args=>
   refine Calls.mono h0 λe w'' hh=>?_
   cases e with
   |returned v=>exact key v w'' hh
   |panicked c=>exact hh
   |outgrown=>exact hh
end
end Go.AV
