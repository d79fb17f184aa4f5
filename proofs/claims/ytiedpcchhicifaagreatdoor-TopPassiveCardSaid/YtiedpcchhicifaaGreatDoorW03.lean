/- Part of the proof. -/
import Derived.Test.YtiedpcchhicifaaGreatDoorW02
set_option linter.unusedSimpArgs false
set_option linter.unusedVariables false
set_option maxRecDepth 100000
set_option maxHeartbeats 4000000
open Nat renaming le_refl→Υ
namespace Go.AV
open Nat renaming reduceEqDiff→ad,reduceAdd→J,reduceLeDiff→ae,reduceLT→aj,reduceMul→af,reduceSub→ag
open List renaming set_cons_zero→bu,set_cons_succ→bV,getD_cons_zero→aI,length_append→aq,map_cons→aJ,cons_append→aG,map_nil→aV,length_cons→ax,nil_append→aC,take_succ_cons→cE,length_nil→aF,length_map→aE,length_replicate→aB,take_length→aP,mem_cons_self→ba,mem_cons_of_mem→aQ
open Int renaming toNat_natCast→az
structure LCL (A:STP)(n:Nat)(L:List W3):Prop where
 nd:(L.map Prod.fst).Nodup
 cl:∀ j,j<L.length→∀ x,x<n→A (L.getD j w30).1 x∈L.map Prod.fst
variable {A:STP} {G:PP→Bool} {n:Nat} {L:List W3}
def Dfa.sto (d:Dfa):Nat→Nat→Nat
 |0,i=>i
 |f+1,i=>if d.cn (i+1)=d.cn i then i else d.sto f (i+1)
def Dfa.cls (d:Dfa):List Int:=d.cl (d.sto (d.nx.length+1) 0+1)
def fsV (cl:List Int)(n s c:Nat):Int:=match(List.range n).find? (λq=>decide (s≤q)&&decide (cl.getD q 0=(c:Int))) with|some q=>(q:Int)|none=>0
def fsL (cl:List Int)(n s:Nat):List Int:=(List.range n).map λc=>fsV cl n s c
def Dfa.rep (d:Dfa)(s:Int):Int:=(fsL d.cls d.nx.length 0).getD (d.cls.getD s.toNat 0).toNat 0
structure RPR (d:Dfa)(s r:Int):Prop where
 rg:0≤r∧r<d.nx.length
 le:r≤s
 cl:d.cls.getD r.toNat 0=d.cls.getD s.toNat 0
 mi:∀ q:Nat,(q:Int)<r→d.cls.getD q 0≠d.cls.getD s.toNat 0
structure M1OK (d:Dfa)(q:PP)(x:Nat):Prop where
 r1:0≤q.1∧q.1<d.nx.length
 rl:((d.nx.getD q.1.toNat []).length:Int)=d.inp
 t1:0≤(d.nx.getD q.1.toNat []).getD x 0∧(d.nx.getD q.1.toNat []).getD x 0<d.nx.length
 c1:0≤d.cls.getD ((d.nx.getD q.1.toNat []).getD x 0).toNat 0∧d.cls.getD ((d.nx.getD q.1.toNat []).getD x 0).toNat 0<d.nx.length
 e:d.rep (d.dl q.1 x)=(fsL d.cls d.nx.length 0).getD (d.cls.getD ((d.nx.getD q.1.toNat []).getD x 0).toNat 0).toNat 0
structure SHP (d:Dfa)(P:List W3)(k:Nat):Prop where
 rg:0≤(P.getD k w30).1.1∧(P.getD k w30).1.1<d.nx.length
def lq (P:Nat→Bool)(s:Nat):Nat:=((List.range s).find? P).getD s
def rc0 (t:Dfa)(s:Nat):Int:=(lq (λq=>decide (t.acc.getD q false=t.acc.getD s false)) s:Int)
def rcF (t:Dfa)(cl:List Int)(s:Nat):Int:=(lq (λq=>decide (t.sg cl q=t.sg cl s)) s:Int)
def rcl (t:Dfa):Nat→List Int
 |0=>(List.range t.nx.length).map (rc0 t)
 |r+1=>(List.range t.nx.length).map (rcF t (rcl t r))
def rC (t:Dfa):List Int:=rcl t t.nx.length
structure RCK (t:Dfa):Prop where
 rg:∀ s,s<t.nx.length→0≤(rC t).getD s 0∧(rC t).getD s 0≤s
 eq:∀ s u,s<t.nx.length→u<t.nx.length→((rC t).getD s 0=(rC t).getD u 0↔DEQ t t s u)
 id:∀ s,s<t.nx.length→(rC t).getD ((rC t).getD s 0).toNat 0=(rC t).getD s 0
def hM (d:Dfa)(p:PP):PP:=(d.rep p.1,0)
theorem H4 {m:Mly}(hm:MOK m):∀ (w:List Int) (s:Int),0≤s∧s<m.nx.length→(∀ i:Nat,i<w.length→0≤w.getD i 0∧w.getD i 0<m.inp)→(0≤(m.go s w).1∧(m.go s w).1<m.nx.length)∧∀ o,o∈(m.go s w).2→0≤o∧o≤gr m
 |[],s,hs,_=>⟨hs,λo h=>by simp[AH] at h⟩
 |a::w,s,hs,hw=>by
  obtain⟨h1,h2⟩:=mQ hw;have hn:=iH hm hs h1;have ho:=HO hm hs h1;obtain⟨r1,r2⟩:=H4 hm w _ hn h2;rw[fq];refine⟨r1,λo h=>?_⟩;rcases List.mem_cons.1 h with e|h
  ·rw[e];exact ho
  ·exact r2 o h
structure PRL (a b M:Mly)(w:List Int):Prop where
 v:aK M=0
 st:M.st=0
 re:M.reach.length=M.nx.length
 ea:gv a a.st w=bQ w a.inp
 eb:gv b b.st w=bQ w a.inp
 em:gv M M.st w=bQ w a.inp
 la:(eG a a.st w).length=(eG M M.st w).length
 lb:(eG b b.st w).length=(eG M M.st w).length
 at_:∀ i,i<(eG M M.st w).length→(eG M M.st w).getD i 0=(eG a a.st w).getD i 0*(1+gr b)+(eG b b.st w).getD i 0
structure CAL (a b M:Mly)(w:List Int):Prop where
 v:aK M=0
 ea:gv a a.st w=bQ w a.inp
 em:gv M M.st w=bQ w a.inp
 eb:bQ w a.inp=0→gv b b.st (eG a a.st w)=0
 vb:bQ w a.inp=0→eG b b.st (eG a a.st w)=eG M M.st w
def plU (n:Int)(w:List Int):List Int:=w.filter λx=>decide (x<n)
def plV (n:Int)(w:List Int):List Int:=(w.filter λx=>!decide (x<n)).map λx=>x-n
def plA (n:Int)(e:List (Int×Int)):List Int:=(e.filter λx=>decide (x.1<n)).map (·.2)
def plB (n k:Int)(e:List (Int×Int)):List Int:=(e.filter λx=>!decide (x.1<n)).map λx=>x.2-1-k
structure PLL (a b M:Mly)(w:List Int):Prop where
 v:aK M=0
 inp:M.inp=a.inp+b.inp
 em:gv M M.st w=bQ w (a.inp+b.inp)
 lm:bQ w (a.inp+b.inp)=0→(eG M M.st w).length=w.length
 ea:bQ w (a.inp+b.inp)=0→gv a a.st (plU a.inp w)=0
 eb:bQ w (a.inp+b.inp)=0→gv b b.st (plV a.inp w)=0
 va:bQ w (a.inp+b.inp)=0→eG a a.st (plU a.inp w)=plA a.inp (w.zip (eG M M.st w))
 vb:bQ w (a.inp+b.inp)=0→eG b b.st (plV a.inp w)=plB a.inp (gr a) (w.zip (eG M M.st w))
def pick (is:List Int)(w:List Int):List Int:=(w.filter λx=>decide (0≤x)&&decide (x<(is.length:Int))).map λx=>is.getD x.toNat 0
def blC (red:List Bool)(b t:Int):Int:=if ¬t= -1∧red.getD t.toNat false=false then min b t else b
def blR (red:List Bool)(r:List Int)(b:Int):Int:=r.foldl (blC red) b
def blA (m:Mly)(red:List Bool)(k:Nat):Int:=(List.range k).foldl (λb s=>if red.getD s false=true then blR red (m.nx.getD s []) b else b) (red.length:Int)
theorem uZ {red:List Bool}{r:List Int}{b:Int}{k:Nat}(h:k<r.length):blR red (r.take (k+1)) b=blC red (blR red (r.take k) b) (r.getD k 0):=by
 unfold blR;rw[List.take_succ_eq_append_getElem h,List.foldl_append];simp[List.getD,h]
theorem iv (m:Mly)(red:List Bool)(k:Nat):blA m red (k+1)=if red.getD k false=true then blR red (m.nx.getD k []) (blA m red k) else blA m red k:=by
 unfold blA;rw[List.range_succ,List.foldl_append]
 rfl
theorem Nq {n:Nat}{od:List Int}(i:Nat)(h:i<n): -1≤(nbO n od).getD i 0∧(nbO n od).getD i 0<(od.length:Int):=by
 have:=v4 (n:=n) (od:=od) (t:=(i:Int)) ω ω;rw[az] at this;rw[this];split
 ·rename_i hm
  have:=l5 hm;omega
 ·omega
theorem OK {m:Mly}{s t:Int}(h:foB m s t=true):(foC m s t).length=m.nx.length:=by
 unfold foB at h;unfold foC
 cases e:foG m s t with
 |none=>rw[e] at h;cases h
 |some f=>simp[foK]
theorem Q4 {m:Mly}(hm:PK m){s t:Int}(hs:0≤s∧s<m.nx.length)(ht:0≤t∧t<m.nx.length)(h:foB m s t=true)(hW:∀ f,foG m s t=some f→WI m.nx.length m.inp.toNat f)(i:Nat)(hi:i<m.nx.length):
 -1≤(foC m s t).getD i 0∧(foC m s t).getD i 0<((foP m s t).nx.length:Int):=by
 unfold foB at h;unfold foC foP
 cases e:foG m s t with
 |none=>rw[e] at h;cases h
 |some f=>
  have hw:=hW f e;have h1:=hw.uo.rep (x:=(i:Int)) ω;have hnl:(foQ m f).nx.length=m.nx.length:=by show(f.nx.map _).length=_;rw[aE];exact hw.nl
  have e1:(foK m f).getD i 0=(foQ m f).rnN.getD (bm f.up (i:Int)).toNat 0:=by simp[foK,List.getD,hi]
  have e2:(foQ m f).rnP.nx.length=(foQ m f).uo.length:=by simp[Mly.rnP,Mly.rnX]
  show-1≤(foK m f).getD i 0∧(foK m f).getD i 0<((foQ m f).rnP.nx.length:Int);rw[e1,e2];exact Nq _ ω
def meS (cl:List Int)(red:List Bool)(acc:List Bool)(s:Nat):List Bool:=if red.getD s false=true∧¬cl.getD s 0= -1 then acc.set (cl.getD s 0).toNat true else acc
def meR (cl:List Int)(red:List Bool)(N k:Nat):List Bool:=(List.range k).foldl (meS cl red) (List.replicate N false)
theorem jU (cl:List Int)(red:List Bool)(N k:Nat):meR cl red N (k+1)=meS cl red (meR cl red N k) k:=by
 unfold meR;rw[List.range_succ,List.foldl_append];rfl
theorem kE (cl:List Int)(red:List Bool)(N:Nat):∀ k,(meR cl red N k).length=N
 |0=>by simp[meR]
 |k+1=>by
  rw[jU];unfold meS;split
  ·rw[List.length_set,kE cl red N k]
  ·exact kE cl red N k
def meT (m:Mly)(red:List Bool)(b:Int)(r:Nat):Bool:=red.getD r false&&foB m (r:Int) b
def meF (m:Mly)(red:List Bool)(b:Int):Mly×List Bool:=
 match(List.range red.length).find? (meT m red b) with
 |some r=>(foP m (r:Int) b,meR (foC m (r:Int) b) red (foP m (r:Int) b).nx.length red.length)
 |none=>(m,red.set b.toNat true)
theorem LR {p:Nat→Bool}{n r:Nat}(hr:r<n)(h:∀ q,q<r→p q=false)(hp:p r=true):(List.range n).find? p=some r:=by
 rw[List.find?_eq_some_iff_append];refine⟨hp,List.range r,(List.range (n-r-1)).map (λi=>i+(r+1)),?_,λa ha=>by rw[h a (List.mem_range.1 ha)];rfl⟩;apply List.ext_getElem
 ·simp;omega
 ·intro i h1 h2
  have hi:i<n:=by simpa using h1
  rw[List.getElem_range]
  by_cases e:i<r
  ·rw[List.getElem_append_left (by simpa using e)];simp
  ·rw[List.getElem_append_right (by simpa using e)]
   by_cases e2:i=r
   ·subst e2;simp
   ·obtain⟨j,hj⟩:∃ j,i-(List.range r).length=j+1:=⟨i-r-1,by simp;omega⟩
    simp only[List.length_range] at hj;simp[hj];omega
theorem NM {p:Nat→Bool}{n:Nat}(h:∀ q,q<n→p q=false):(List.range n).find? p=none:=by
 rw[List.find?_eq_none];intro a ha;rw[h a (List.mem_range.1 ha)];simp
theorem BR {m:Mly}{red:List Bool}{b:Int}{r:Nat}(hr:r<red.length)(h:∀ q,q<r→meT m red b q=false)(hp:meT m red b r=true):meF m red b=(foP m (r:Int) b,meR (foC m (r:Int) b) red (foP m (r:Int) b).nx.length red.length):=by
 unfold meF;rw[LR hr h hp]
theorem Ay {m:Mly}{red:List Bool}{b:Int}(h:∀ q,q<red.length→meT m red b q=false):meF m red b=(m,red.set b.toNat true):=by
 unfold meF;rw[NM h]
theorem WI.run {n inp:Nat}(hi:inp≤64):∀ (F:Nat) {s f:FST},WI n inp s→gi inp F s=some f→WI n inp f∧f.wk=[]
 |0,_,_,_,e=>by cases e
 |F+1,s,f,h,e=>by
  by_cases h0:s.wk=[]
  ·rw[ir h0] at e;cases e;exact⟨h,h0⟩
  ·rw[fB h0] at e
   cases e1:dr inp s with
   |none=>rw[e1] at e;cases e
   |some s1=>
    rw[e1,Option.bind_some] at e;exact WI.run hi F (h.step hi (List.length_pos_iff.2 h0) e1).1 e
theorem oB {m:Mly}(hm:PK m){s t:Int}(hs:0≤s∧s<m.nx.length)(ht:0≤t∧t<m.nx.length){f:FST}(e:foG m s t=some f):WI m.nx.length m.inp.toNat f∧f.wk=[]:=
 WI.run (by have:=hm.i2;omega) _ (WI.zero hm hs ht) e
def nh (m:Mly)(s a:Nat):Int:=
 if(m.nx.getD s []).getD a 0< -1∨(m.nx.length:Int)≤(m.nx.getD s []).getD a 0∨(m.ot.getD s []).getD a 0< -1∨1048576<(m.ot.getD s []).getD a 0 then 2
 else if decide ((m.nx.getD s []).getD a 0= -1)=decide ((m.ot.getD s []).getD a 0= -1) then 0 else 1
def tz (m:Mly)(s:Nat):Int:=if gK m s then 1 else dK (nh m s) m.inp.toNat
def mV (m:Mly):Int:=
 if m.inp<1∨64<m.inp then 2 else if m.nx.length=0 then 19 else if 4096<m.nx.length then 11
 else if m.st<0∨(m.nx.length:Int)≤m.st then 2 else if m.ot.length≠m.nx.length then 1 else dK (tz m) m.nx.length
theorem E7 {m:Mly}{s:Nat}(h1:((m.nx.getD s []).length:Int)=m.inp)(h2:((m.ot.getD s []).length:Int)=m.inp)(h3:∀ a,a<m.inp.toNat→nh m s a=0):tz m s=0:=by
 unfold tz;rw[if_neg (by unfold gK;omega)];exact bH h3
theorem iO {m:Mly}{s j:Nat}(h1:((m.nx.getD s []).length:Int)=m.inp)(h2:((m.ot.getD s []).length:Int)=m.inp)(h3:∀ a,a<j→nh m s a=0)(hj:(j:Int)<m.inp)(hb:¬nh m s j=0):tz m s=nh m s j:=by
 unfold tz;rw[if_neg (by unfold gK;omega)];exact bC h3 ω hb
theorem dM {m:Mly}{s:Nat}(h:¬((m.nx.getD s []).length:Int)=m.inp∨¬((m.ot.getD s []).length:Int)=m.inp):tz m s=1:=by
 unfold tz;rw[if_pos (show gK m s from h)]
theorem S1 {m:Mly}{s a:Nat}(h:(m.nx.getD s []).getD a 0< -1∨(m.nx.length:Int)≤(m.nx.getD s []).getD a 0∨(m.ot.getD s []).getD a 0< -1∨1048576<(m.ot.getD s []).getD a 0):nh m s a=2:=if_pos h
theorem T6 {m:Mly}{s a:Nat}(h:¬((m.nx.getD s []).getD a 0< -1∨(m.nx.length:Int)≤(m.nx.getD s []).getD a 0∨(m.ot.getD s []).getD a 0< -1∨1048576<(m.ot.getD s []).getD a 0))(h2:¬decide ((m.nx.getD s []).getD a 0= -1)=decide ((m.ot.getD s []).getD a 0= -1)):nh m s a=1:=by
 unfold nh;rw[if_neg h,if_neg h2]
theorem He {m:Mly}{s a:Nat}(h:¬((m.nx.getD s []).getD a 0< -1∨(m.nx.length:Int)≤(m.nx.getD s []).getD a 0∨(m.ot.getD s []).getD a 0< -1∨1048576<(m.ot.getD s []).getD a 0))(h2:decide ((m.nx.getD s []).getD a 0= -1)=decide ((m.ot.getD s []).getD a 0= -1)):nh m s a=0:=by
 unfold nh;rw[if_neg h,if_pos h2]
structure PRK (m:Mly):Prop where
 i1:1≤m.inp
 i2:m.inp≤64
 n1:1≤m.nx.length
 n2:m.nx.length≤4096
 s1:0≤m.st
 s2:m.st<m.nx.length
 ol:m.ot.length=m.nx.length
 rl:∀ s,s<m.nx.length→((m.nx.getD s []).length:Int)=m.inp
 ql:∀ s,s<m.nx.length→((m.ot.getD s []).length:Int)=m.inp
 nr:∀ s a:Nat,s<m.nx.length→(a:Int)<m.inp→-1≤(m.nx.getD s []).getD a 0∧(m.nx.getD s []).getD a 0<m.nx.length
 or:∀ s a:Nat,s<m.nx.length→(a:Int)<m.inp→-1≤(m.ot.getD s []).getD a 0∧(m.ot.getD s []).getD a 0≤1048576
 eq:∀ s a:Nat,s<m.nx.length→(a:Int)<m.inp→((m.nx.getD s []).getD a 0= -1↔(m.ot.getD s []).getD a 0= -1)
theorem Q2 {m:Mly}(h:PRK m):mV m=0:=by
 unfold mV;have:=h.i1;have:=h.i2;have:=h.n1;have:=h.n2;have:=h.s1;have:=h.s2;have:=h.ol;rw[if_neg ω,if_neg ω,if_neg ω,if_neg ω,if_neg ω];refine bH λs hs=>E7 (h.rl s hs) (h.ql s hs) λa ha=>?_;have h1:=h.nr s a hs ω;have h2:=h.or s a hs ω;have h3:=h.eq s a hs ω;exact He ω (by rw[decide_eq_decide];exact h3)
theorem DF {l k:List Int}{t:Nat}(h:t≤l.length):(l++k).take t=l.take t:=by rw[List.take_append_of_le_length h]
def bef (s a i j:Nat):Prop:=s<i∨s=i∧a<j
structure ORD (m:Mly)(l:List Int)(i j:Nat):Prop where
 cl:∀ s a:Nat,bef s a i j→(a:Int)<m.inp→(m.row (l.getD s 0)).getD a 0= -1∨(m.row (l.getD s 0)).getD a 0∈l
 fi:∀ t:Nat,0<t→t<l.length→∃ s a:Nat,bef s a i j∧(a:Int)<m.inp∧s<t∧(m.row (l.getD s 0)).getD a 0=l.getD t 0∧∀ s' a':Nat,bef s' a' s a→(a':Int)<m.inp→(m.row (l.getD s' 0)).getD a' 0= -1∨(m.row (l.getD s' 0)).getD a' 0∈l.take t
theorem ORD.one (m:Mly):ORD m [m.st] 0 0:=⟨λs a h=>by unfold bef at h;omega,λt h1 h2=>by simp at h2;omega⟩
theorem ORD.step {m:Mly}{l:List Int}{i j:Nat}(h:ORD m l i j)(hil:i<l.length)(hj:(j:Int)<m.inp):ORD m (addU l ((m.row (l.getD i 0)).getD j 0)) i (j+1):=by
 obtain⟨k,hk⟩:=zt l ((m.row (l.getD i 0)).getD j 0);have hg:∀ s,s<l.length→(addU l ((m.row (l.getD i 0)).getD j 0)).getD s 0=l.getD s 0:=λs hs2=>by
  rw[hk];simp only[List.getD];rw[List.getElem?_append_left hs2]
 have hb:∀ s a,bef s a i j→bef s a i (j+1):=λs a hh=>by unfold bef at*;omega
 refine⟨λs a hsa ha=>?_,λt h0 ht=>?_⟩
 ·have hsl:s<l.length:=by unfold bef at hsa;omega
  rw[hg s hsl]
  by_cases e:s=i∧a=j
  ·obtain⟨rfl,rfl⟩:=e
   by_cases e2:(m.row (l.getD s 0)).getD a 0= -1
   ·exact .inl e2
   ·exact .inr (yq.2 (.inr ⟨e2,rfl⟩))
  ·rcases h.cl s a (by unfold bef at*;omega) ha with h1|h1
   ·exact .inl h1
   ·exact .inr (yq.2 (.inl h1))
 ·by_cases htl:t<l.length
  ·obtain⟨s,a,h1,h2,h3,h4,h5⟩:=h.fi t h0 htl
   refine⟨s,a,hb _ _ h1,h2,h3,by rw[hg s ω,hg t htl];exact h4,λs' a' h6 h7=>?_⟩;rw[hg s' (by unfold bef at h6;omega),hk,DF ω];exact h5 s' a' h6 h7
  ·have hne:¬(m.row (l.getD i 0)).getD j 0= -1:=λe=>by rw[e,rQ] at ht;exact htl ht
   have hni:(m.row (l.getD i 0)).getD j 0∉l:=λe=>by rw[vJ e] at ht;exact htl ht
   have he:=rT hne hni;rw[he] at ht hg⊢;have htl2:t=l.length:=by simp at ht;omega
   subst htl2;refine⟨i,j,by unfold bef;omega,hj,hil,?_,λs' a' h6 h7=>?_⟩
   ·rw[hg i hil];simp[List.getD]
   ·rw[hg s' (by unfold bef at h6;omega),DF (Υ _),aP]
    exact h.cl s' a' h6 h7
theorem Kv {l l':List Int}{k:List Int}(h:l'=l++k){i:Nat}(hi:i<l.length):l'.getD i 0=l.getD i 0:=by
 rw[h];simp only[List.getD];rw[List.getElem?_append_left hi]
theorem ORD.tk {m:Mly}{l:List Int}{i:Nat}(h:ORD m l i 0)(hil:i<l.length)(hl:((m.row (l.getD i 0)).length:Int)=m.inp):∀ j,j≤(m.row (l.getD i 0)).length→ORD m (((m.row (l.getD i 0)).take j).foldl addU l) i j
 |0,_=>h
 |j+1,hj=>by
  have ih:=ORD.tk h hil hl j ω;obtain⟨k,hk⟩:=kB ((m.row (l.getD i 0)).take j) l;have hg:=Kv hk hil;have hl2:i<(((m.row (l.getD i 0)).take j).foldl addU l).length:=by rw[hk,aq];omega
  have:=ih.step hl2 ω;rw[hg] at this;rw[jq ω];exact this
theorem ORD.row {m:Mly}{l:List Int}{i:Nat}(h:ORD m l i 0)(hil:i<l.length)(hl:((m.row (l.getD i 0)).length:Int)=m.inp):ORD m ((m.row (l.getD i 0)).foldl addU l) (i+1) 0:=by
 have h1:=h.tk hil hl _ (Υ _);rw[aP] at h1;refine⟨λs a hsa ha=>h1.cl s a ?_ ha,λt h0 ht=>?_⟩
 ·unfold bef at*;omega
 ·obtain⟨s,a,g1,g2,g3,g4,g5⟩:=h1.fi t h0 ht
  exact⟨s,a,by unfold bef at*;omega,g2,g3,g4,g5⟩
theorem PK.ord {m:Mly}(hm:PK m):∀ (f i:Nat) (l:List Int),RSet m.nx.length l→m.nx.length<f+i→i≤l.length→ORD m l i 0→ORD m (m.uf f i l) (m.uf f i l).length 0
 |0,i,l,hr,hf,hi,_=>by have:=hr.len;omega
 |f+1,i,l,hr,hf,hi,h=>by
  by_cases hil:i<l.length
  ·rw[xr m f i l hil]
   have ha:=hr.at_ hil;obtain⟨k,hk⟩:=kB (m.row (l.getD i 0)) l;exact PK.ord hm f (i+1) _ (hr.foldU (hm.row_rng ha.1 ha.2)) ω (by rw[hk,aq];omega) (h.row hil (hm.rl _ ω))
  ·rw[AB m _ _ _ ω]
   have e:i=l.length:=ω;rw[← e];exact h
theorem IM (m:Mly):∀ (f i:Nat) (l:List Int),∃ k,m.uf f i l=l++k
 |0,_,l=>⟨[],by simp[Mly.uf]⟩
 |f+1,i,l=>by
  by_cases hil:i<l.length
  ·rw[xr m f i l hil]
   obtain⟨k,hk⟩:=kB (m.row (l.getD i 0)) l;obtain⟨k2,hk2⟩:=IM m f (i+1) ((m.row (l.getD i 0)).foldl addU l);exact⟨k++k2,by rw[hk2,hk,List.append_assoc]⟩
  ·exact⟨[],by rw[AB m _ _ _ ω];simp⟩
theorem PK.uoO {m:Mly}(hm:PK m):ORD m m.uo m.uo.length 0:=hm.ord _ _ _ hm.one ω (Nat.zero_le _) (ORD.one m)
theorem pP (m:Mly):m.uo.getD 0 0=m.st∧0<m.uo.length:=by
 obtain⟨k,hk⟩:=IM m (m.nx.length+1) 0 [m.st];unfold Mly.uo;rw[hk];simp[List.getD]
theorem PK.clo {m:Mly}(hm:PK m){s a:Nat}(hs:s<m.uo.length)(ha:(a:Int)<m.inp):(m.row (m.uo.getD s 0)).getD a 0= -1∨(m.row (m.uo.getD s 0)).getD a 0∈m.uo:=hm.uoO.cl s a (.inl hs) ha
theorem PK.all {m:Mly}(hm:PK m){p:Int→Prop}(h0:p m.st)(h1:∀ s a:Nat,s<m.nx.length→(a:Int)<m.inp→¬(m.nx.getD s []).getD a 0= -1→p ((m.nx.getD s []).getD a 0)):∀ x,x∈m.uo→p x:=by
 intro x hx;obtain⟨t,ht,rfl⟩:=List.getElem_of_mem hx;have e:m.uo[t]=m.uo.getD t 0:=by simp[List.getD,ht]
 rw[e]
 by_cases h:t=0
 ·subst h;rw[(pP m).1];exact h0
 ·obtain⟨s,a,g1,g2,g3,g4,g5⟩:=hm.uoO.fi t ω ht
  have hr:=hm.uoR.at_ (i:=s) ω;have ht2:=hm.uoR.at_ ht;rw[← g4];exact h1 (m.uo.getD s 0).toNat a ω g2 (by show ¬(m.row (m.uo.getD s 0)).getD a 0= -1;rw[g4];omega)
theorem mc (m:Mly):m.rnP.nx.length=m.uo.length∧m.rnP.ot.length=m.uo.length:=⟨by simp[Mly.rnP,Mly.rnX],by simp[Mly.rnP,Mly.rnO]⟩
theorem uX {m:Mly}{i:Nat}(hi:i<m.uo.length):m.rnP.nx.getD i []=(m.row (m.uo.getD i 0)).map (nxC m.rnN)∧m.rnP.ot.getD i []=(List.range (m.row (m.uo.getD i 0)).length).map (otC (m.row (m.uo.getD i 0)) (m.ot.getD (m.uo.getD i 0).toNat [])):=by
 constructor
 ·show(m.uo.map _).getD i []=_
  simp[List.getD,hi]
 ·show(m.uo.map _).getD i []=_
  simp[List.getD,hi]
theorem PK.rowL {m:Mly}(hm:PK m){i:Nat}(hi:i<m.uo.length):((m.row (m.uo.getD i 0)).length:Int)=m.inp:=by
 have:=hm.uoR.at_ hi;exact hm.rl _ ω
theorem PK.rn_nx {m:Mly}(hm:PK m){i a:Nat}(hi:i<m.uo.length)(ha:(a:Int)<m.inp):
 (m.rnP.nx.getD i []).getD a 0=if(m.row (m.uo.getD i 0)).getD a 0= -1 then-1 else(pos m.uo ((m.row (m.uo.getD i 0)).getD a 0):Int):=by
 have hl:=hm.rowL hi;have hr:=hm.uoR.at_ hi;rw[(uX hi).1];have hal:a<(m.row (m.uo.getD i 0)).length:=ω;have e:((m.row (m.uo.getD i 0)).map (nxC m.rnN)).getD a 0=nxC m.rnN ((m.row (m.uo.getD i 0)).getD a 0):=by
  generalize m.row (m.uo.getD i 0)=r at hal
  simp[List.getD,hal]
 rw[e];unfold nxC;split
 ·rfl
 ·rename_i hne
  have hn:=hm.row_rng hr.1 hr.2 ((m.row (m.uo.getD i 0)).getD a 0) (cP hal);show(nbO m.nx.length m.uo).getD _ 0=_;rw[v4 ω hn.2,if_pos ((hm.clo hi ha).resolve_left hne)]
theorem PK.rn_ot {m:Mly}(hm:PK m){i a:Nat}(hi:i<m.uo.length)(ha:(a:Int)<m.inp):
 (m.rnP.ot.getD i []).getD a 0=if(m.row (m.uo.getD i 0)).getD a 0= -1 then-1 else(m.ot.getD (m.uo.getD i 0).toNat []).getD a 0:=by
 have hl:=hm.rowL hi;have hal:a<(m.row (m.uo.getD i 0)).length:=ω;rw[(uX hi).2];have key:∀ (r o:List Int) (n:Nat),a<n→((List.range n).map (otC r o)).getD a 0=otC r o a:=λr o n h=>by simp[List.getD,h]
 rw[key _ _ _ hal]
 rfl
theorem PK.rnV {m:Mly}(hm:PK m)(hor:∀ s a:Nat,s<m.nx.length→(a:Int)<m.inp→-1≤(m.ot.getD s []).getD a 0∧(m.ot.getD s []).getD a 0≤1048576)
 (heq:∀ s a:Nat,s<m.nx.length→(a:Int)<m.inp→((m.nx.getD s []).getD a 0= -1↔(m.ot.getD s []).getD a 0= -1)):PRK m.rnP:=by
 have hl:=mc m;have hu:=hm.uoR.len;have h2:=hm.n2;refine⟨hm.i1,hm.i2,by rw[hl.1];exact(pP m).2,by rw[hl.1];omega,Int.le_refl 0,by rw[hl.1];have:=(pP m).2;show(0:Int)<_;omega,by rw[hl.1,hl.2],λs hs=>?_,λs hs=>?_,λs a hs ha=>?_,λs a hs ha=>?_,λs a hs ha=>?_⟩
 ·rw[hl.1] at hs
  rw[(uX hs).1,aE];exact hm.rowL hs
 ·rw[hl.1] at hs
  rw[(uX hs).2,aE,List.length_range];exact hm.rowL hs
 ·rw[hl.1] at hs
  rw[hm.rn_nx hs ha,hl.1];split
  ·omega
  ·rename_i hne
   have:=l5 ((hm.clo hs ha).resolve_left hne);omega
 ·rw[hl.1] at hs
  have hr:=hm.uoR.at_ hs;rw[hm.rn_ot hs ha];split
  ·omega
  ·exact hor _ a ω ha
 ·rw[hl.1] at hs
  have hr:=hm.uoR.at_ hs;have hq:=heq (m.uo.getD s 0).toNat a ω ha;rw[hm.rn_nx hs ha,hm.rn_ot hs ha];split
  ·simp
  ·rename_i hne
   have h5:¬(m.ot.getD (m.uo.getD s 0).toNat []).getD a 0= -1:=λe=>hne (hq.2 e)
   constructor
   ·intro e;omega
   ·intro e;exact absurd e h5
theorem PRK.pk {m:Mly}(h:PRK m):PK m:=⟨h.i1,h.i2,h.n1,h.n2,h.s1,h.s2,h.ol,h.rl,h.ql,h.nr⟩
structure FOX (n inp:Nat)(s:FST):Prop where
 or:∀ i a,i<n→a<inp→-1≤foE s.ot i a∧foE s.ot i a≤1048576
 eq:∀ i a,i<n→a<inp→(foE s.nx i a= -1↔foE s.ot i a= -1)
theorem FOX.foA {n inp:Nat}{s s':FST}(h:WI n inp s)(hx0:FOX n inp s){x y a:Nat}(hx:x<n)(hy:y<n)(ha:a<inp)(e:Go.AV.foA x y s a=some s'):FOX n inp s':=by
 have hrx:=h.rl x hx;have hqx:=h.ql x hx;unfold Go.AV.foA at e;split at e
 ·cases e;exact hx0
 ·rename_i h1
  split at e
  ·cases e
   refine⟨λi b hi hb=>?_,λi b hi hb=>?_⟩
   ·rw[fU (by rw[h.ol];exact hx) ω]
    split
    ·exact hx0.or y a hy ha
    ·exact hx0.or i b hi hb
   ·rw[fU (by rw[h.nl];exact hx) ω,fU (by rw[h.ol];exact hx) ω]
    split
    ·exact hx0.eq y a hy ha
    ·exact hx0.eq i b hi hb
  ·split at e
   ·cases e
   ·cases e;exact⟨hx0.or,hx0.eq⟩
theorem FOX.foR {n inp:Nat}{s:FST}(h:WI n inp s)(hx0:FOX n inp s){x y:Nat}(hx:x<n)(hy:y<n):∀ (a:Nat) {s':FST},a≤inp→Go.AV.foR x y s a=some s'→FOX n inp s'
 |0,s',_,e=>by cases e;exact hx0
 |a+1,s',ha,e=>by
  simp only[Go.AV.foR] at e
  cases e1:Go.AV.foR x y s a with
  |none=>rw[e1] at e;cases e
  |some s1=>
   rw[e1] at e;exact(FOX.foR h hx0 hx hy a ω e1).foA (h.foR hx hy a ω e1).1 hx hy ω e
theorem FOX.step {n inp:Nat}{s s':FST}(h:WI n inp s)(hx0:FOX n inp s)(h0:0<s.wk.length)(e:dr inp s=some s'):FOX n inp s':=by
 unfold dr at e;split at e
 ·cases e;exact⟨hx0.or,hx0.eq⟩
 ·rename_i hne
  have huv:=h.uv h0;exact FOX.foR (h.foJ h0 hne) ⟨hx0.or,hx0.eq⟩ ω ω inp (Υ _) e
theorem FOX.run {n inp:Nat}(hi:inp≤64):∀ (F:Nat) {s f:FST},WI n inp s→FOX n inp s→gi inp F s=some f→FOX n inp f
 |0,_,_,_,_,e=>by cases e
 |F+1,s,f,h,hx,e=>by
  by_cases h0:s.wk=[]
  ·rw[ir h0] at e;cases e;exact hx
  ·rw[fB h0] at e
   cases e1:dr inp s with
   |none=>rw[e1] at e;cases e
   |some s1=>
    rw[e1,Option.bind_some] at e;exact FOX.run hi F (h.step hi (List.length_pos_iff.2 h0) e1).1 (hx.step h (List.length_pos_iff.2 h0) e1) e
theorem FOX.zero {m:Mly}(hm:PRK m)(s t:Int):FOX m.nx.length m.inp.toNat (gX m s t):=⟨λi a hi ha=>hm.or i a hi ω,λi a hi ha=>hm.eq i a hi ω⟩
theorem qq {m:Mly}{f:FST}(h:WI m.nx.length m.inp.toNat f){s a:Nat}(hs:s<m.nx.length)(ha:a<m.inp.toNat):((foQ m f).nx.getD s []).getD a 0=g9 f.up (foE f.nx s a):=by
 have hnl:=h.nl;have hrl:=h.rl s hs;have e1:(foQ m f).nx.getD s []=(f.nx.getD s []).map (g9 f.up):=by
  show(f.nx.map _).getD s []=_;simp[List.getD,show s<f.nx.length by omega]
 rw[e1];unfold foE;have hal:a<(f.nx.getD s []).length:=ω
 generalize f.nx.getD s []=r at hal
 simp[List.getD,hal]
theorem yk {n:Nat}{es:List (KV×Int)}(h:UPOK n es){t:Int}(ht: -1≤t):g9 es t= -1↔t= -1:=by
 unfold g9;split
 ·rename_i e;simp[e]
 ·rename_i e
  have:=h.rep (x:=t) ω
  constructor
  ·intro h9;omega
  ·intro h9;exact absurd h9 e
theorem Iv {m:Mly}(hm:PRK m){s t:Int}(hs:0≤s∧s<m.nx.length)(ht:0≤t∧t<m.nx.length)(h:foB m s t=true):PRK (foP m s t):=by
 obtain⟨f,hf⟩:=Option.isSome_iff_exists.1 (show(foG m s t).isSome=true from h);have hw:=(oB hm.pk hs ht hf).1;have hx:=FOX.run (by have:=hm.i2;omega) _ (WI.zero hm.pk hs ht) (FOX.zero hm s t) hf;have hi1:=hm.i1;have e:foP m s t=(foQ m f).rnP:=by unfold foP;rw[hf]
 rw[e];have hnl:(foQ m f).nx.length=m.nx.length:=by show(f.nx.map _).length=_;rw[aE];exact hw.nl
 refine(mI hm.pk hw).rnV (λi a hi ha=>?_) (λi a hi ha=>?_)
 ·rw[hnl] at hi
  have ha':(a:Int)<m.inp:=ha;exact hx.or i a hi ω
 ·rw[hnl] at hi
  have ha':(a:Int)<m.inp:=ha;rw[qq hw hi ω,yk hw.uo (hw.nr i a hi ω).1];exact hx.eq i a hi ω
theorem Ec {es:List (KV×Int)}{k k2:KV}{v:Int}(h:¬bD es k2=none):¬bD (f0 es k v) k2=none:=by
 rw[jf];split
 ·simp
 ·exact h
theorem uQ {x y:Nat}{s:FST}:∀ (a:Nat) {s':FST},Go.AV.foR x y s a=some s'→s'.up=s.up
 |0,s',e=>by cases e;rfl
 |a+1,s',e=>by
  simp only[Go.AV.foR] at e
  cases e1:Go.AV.foR x y s a with
  |none=>rw[e1] at e;cases e
  |some s1=>
   rw[e1] at e;have h2:s'.up=s1.up:=by
    simp only[Option.bind_some] at e;unfold Go.AV.foA at e;split at e
    ·cases e;rfl
    ·split at e
     ·cases e;rfl
     ·split at e
      ·cases e
      ·cases e;rfl
   exact h2.trans (uQ a e1)
theorem AZ {inp:Nat}{s s':FST}{k:KV}(e:dr inp s=some s')(h:¬bD s.up k=none):¬bD s'.up k=none:=by
 unfold dr at e;split at e
 ·cases e;exact h
 ·rw[uQ _ e];exact Ec h
theorem uc {inp:Nat}{k:KV}:∀ (F:Nat) {s f:FST},gi inp F s=some f→¬bD s.up k=none→¬bD f.up k=none
 |0,_,_,e,_=>by cases e
 |F+1,s,f,e,h=>by
  by_cases h0:s.wk=[]
  ·rw[ir h0] at e;cases e;exact h
  ·rw[fB h0] at e
   cases e1:dr inp s with
   |none=>rw[e1] at e;cases e
   |some s1=>
    rw[e1,Option.bind_some] at e;exact uc F e (AZ e1 h)
theorem Ng {m:Mly}{s t:Int}(hne:¬s=t){f:FST}(e:foG m s t=some f):¬bD f.up (.int (max s t))=none:=by
 unfold foG at e;have h0:¬(gX m s t).wk=[]:=by simp[gX]
 rw[fB h0] at e
 cases e1:dr m.inp.toNat (gX m s t) with
 |none=>rw[e1] at e;cases e
 |some s1=>
  rw[e1,Option.bind_some] at e;refine uc _ e ?_;have hu:foU (gX m s t)=s:=by show bm [] s=s;exact dJ rfl
  have hv:foV (gX m s t)=t:=by show bm [] t=t;exact dJ rfl
  unfold dr at e1;rw[if_neg (by rw[hu,hv];exact hne)] at e1;rw[uQ _ e1];show ¬bD (f0 [] (.int (max (foU (gX m s t)) (foV (gX m s t)))) _) _=none;rw[hu,hv,jf,if_pos rfl];simp
theorem Lk {m:Mly}(hm:PK m){s t:Int}(hs:0≤s∧s<m.nx.length)(ht:0≤t∧t<m.nx.length)(hne:¬s=t)(h:foB m s t=true):(foP m s t).nx.length<m.nx.length:=by
 obtain⟨f,hf⟩:=Option.isSome_iff_exists.1 (show(foG m s t).isSome=true from h);have hw:=(oB hm hs ht hf).1;have hq:=mI hm hw;have e:foP m s t=(foQ m f).rnP:=by unfold foP;rw[hf]
 have hnl:(foQ m f).nx.length=m.nx.length:=by show(f.nx.map _).length=_;rw[aE];exact hw.nl
 have hi1:=hm.i1;have hrep:∀ x,x∈(foQ m f).uo→bD f.up (.int x)=none:=hq.all (p:=λx=>bD f.up (.int x)=none) (hw.uo.rep hm.s1).2.2 λi a hi ha hn=>by
  rw[hnl] at hi;have ha':(a:Int)<m.inp:=ha;have hnr:=hw.nr i a hi ω;rw[qq hw hi ω] at hn⊢;have hn2:¬foE f.nx i a= -1:=λe2=>hn ((yk hw.uo hnr.1).2 e2);unfold g9;rw[if_neg hn2];exact(hw.uo.rep ω).2.2
 have hy:max s t∉(foQ m f).uo:=λhm2=>Ng hne hf (hrep _ hm2);have hr:=hq.uoR;rw[hnl] at hr;have:((foQ m f).uo++[max s t]).length≤m.nx.length:=by
  refine gz _ _ ?_ λx hx=>?_
  ·rw[List.nodup_append]
   exact⟨hr.nd,η,λa ha b hb=>by simp at hb;subst hb;intro e2;subst e2;exact hy ha⟩
  ·rcases List.mem_append.1 hx with hx|hx
   ·exact hr.rng x hx
   ·simp at hx;subst hx;omega
 rw[e,(mc _).1];rw[aq,List.length_singleton] at this;omega
def rY (red:List Bool):Nat:=red.count false
theorem xG:∀ {red:List Bool} {b:Nat},b<red.length→red.getD b false=false→rY (red.set b true)+1=rY red
 |[],_,h,_=>by simp at h
 |x::r,0,_,hb=>by
  have:x=false:=by simpa [List.getD] using hb
  subst this;simp[rY]
 |x::r,b+1,h,hb=>by
  have ih:=xG (red:=r) (b:=b) (by simpa using h) (by simpa [List.getD] using hb);unfold rY at ih⊢
  cases x<;>simp at ih⊢<;>omega
theorem LC (red:List Bool):rY red≤red.length:=List.count_le_length
def muL (m:Mly)(red:List Bool):Nat:=m.nx.length*4097+rY red
def leF:Nat→Mly→List Bool→Mly
 |0,m,_=>m
 |f+1,m,red=>if blA m red red.length<(red.length:Int) then leF f (meF m red (blA m red red.length)).1 (meF m red (blA m red red.length)).2 else m
theorem Dc {red:List Bool}{n:Nat}:∀ {r:List Int} {b:Int},(∀ x,x∈r→-1≤x∧x<n)→(0≤b∧(b<n→red.getD b.toNat false=false))→0≤blR red r b∧(blR red r b<n→red.getD (blR red r b).toNat false=false)
 |[],_,_,h=>h
 |t::r,b,hr,h=>by
  show 0≤blR red r (blC red b t)∧_;refine Dc (λx hx=>hr x (aQ _ hx)) ?_;have ht:=hr t (ba ..);unfold blC;split
  ·rename_i hc
   by_cases e:b≤t
   ·rw[Int.min_eq_left e];exact h
   ·rw[Int.min_eq_right ω];exact⟨ω,λ_=>hc.2⟩
  ·exact h
theorem Ej {m:Mly}(hm:PK m){red:List Bool}(hr:red.length=m.nx.length):∀ k,k≤red.length→0≤blA m red k∧(blA m red k<m.nx.length→red.getD (blA m red k).toNat false=false)
 |0,_=>⟨by simp[blA],λh=>by simp[blA] at h;omega⟩
 |k+1,hk=>by
  have ih:=Ej hm hr k ω;rw[iv];split
  ·have:=hm.row_rng (s:=(k:Int)) ω ω
   exact Dc this ih
  ·exact ih
theorem Iq {m:Mly}(hm:PRK m){red:List Bool}(hr:red.length=m.nx.length){b:Int}(hb:0≤b∧b<m.nx.length)(hrb:red.getD b.toNat false=false):
 PRK (meF m red b).1∧(meF m red b).2.length=(meF m red b).1.nx.length∧muL (meF m red b).1 (meF m red b).2<muL m red:=by
 cases hf:(List.range red.length).find? (meT m red b) with
 |none=>
  have e:meF m red b=(m,red.set b.toNat true):=by unfold meF;rw[hf]
  rw[e];refine⟨hm,by simp[hr],?_⟩;have:=xG (red:=red) (b:=b.toNat) ω hrb;unfold muL;simp only;omega
 |some r=>
  have hp:=List.find?_some hf;have hrl:r<red.length:=List.mem_range.1 (List.mem_of_find?_eq_some hf);have e:meF m red b=(foP m (r:Int) b,meR (foC m (r:Int) b) red (foP m (r:Int) b).nx.length red.length):=by unfold meF;rw[hf]
  unfold meT at hp;simp only[Bool.and_eq_true] at hp;have hne:¬(r:Int)=b:=λe2=>by
   have:b.toNat=r:=ω;rw[this,hp.1] at hrb;cases hrb
  have h1:=Iv hm (s:=(r:Int)) ω hb hp.2;have h2:=Lk hm.pk (s:=(r:Int)) ω hb hne hp.2;rw[e];refine⟨h1,kE _ _ _ _,?_⟩;have h3:=LC (meR (foC m (r:Int) b) red (foP m (r:Int) b).nx.length red.length);rw[kE] at h3;have h4:=h1.n2;unfold muL;simp only;have:((foP m (r:Int) b).nx.length+1)*4097≤m.nx.length*4097:=Nat.mul_le_mul_right _ h2;rw[Nat.add_mul] at this;omega
structure TST where
 nx:List (List Int)
 ot:List (List Int)
 s:Nat
def trA (inp:Nat)(t:TRC)(j:Nat)(q:TST):Option TST:=
 if foE q.nx q.s (t.1.getD j 0).toNat= -1 then
  if q.nx.length=4096 then none
  else some ⟨foS q.nx q.s (t.1.getD j 0).toNat q.nx.length++[unk inp],foS q.ot q.s (t.1.getD j 0).toNat (t.2.1.getD j 0)++[unk inp],q.nx.length⟩
 else some {q with s:=(foE q.nx q.s (t.1.getD j 0).toNat).toNat}
def trT (inp:Nat)(t:TRC)(q:TST):Nat→Option TST
 |0=>some {q with s:=0}
 |j+1=>(trT inp t q j).bind (trA inp t j)
def trR (inp:Nat)(T:List TRC):Nat→Option TST
 |0=>some ⟨[unk inp],[unk inp],0⟩
 |i+1=>(trR inp T i).bind λq=>trT inp (T.getD i aT) q (T.getD i aT).1.length
def lj (inp:Int)(T:List TRC):Option TST:=trR inp.toNat T T.length
def dD (inp:Int)(T:List TRC):Mly:=match lj inp T with|some q=>(⟨inp,0,q.nx,q.ot⟩:Mly).rnP|none=>zY
def dY (inp:Int)(T:List TRC):Int:=match lj inp T with|some _=>0|none=>11
structure TRV (inp:Int)(T:List TRC):Prop where
 i1:1≤inp
 i2:inp≤64
 sy:∀ k,k<T.length→∀ j,j<(T.getD k aT).1.length→0≤(T.getD k aT).1.getD j 0∧(T.getD k aT).1.getD j 0<inp
 ol:∀ k,k<T.length→(T.getD k aT).2.1.length=(T.getD k aT).1.length
 or:∀ k,k<T.length→∀ j,j<(T.getD k aT).1.length→0≤(T.getD k aT).2.1.getD j 0∧(T.getD k aT).2.1.getD j 0≤1048576
structure TW (inp:Nat)(q:TST):Prop where
 n1:1≤q.nx.length
 n2:q.nx.length≤4096
 ol:q.ot.length=q.nx.length
 rl:∀ i,i<q.nx.length→(q.nx.getD i []).length=inp
 ql:∀ i,i<q.nx.length→(q.ot.getD i []).length=inp
 nr:∀ i a,i<q.nx.length→a<inp→-1≤foE q.nx i a∧foE q.nx i a<q.nx.length
 or:∀ i a,i<q.nx.length→a<inp→-1≤foE q.ot i a∧foE q.ot i a≤1048576
 eq:∀ i a,i<q.nx.length→a<inp→(foE q.nx i a= -1↔foE q.ot i a= -1)
 sl:q.s<q.nx.length
theorem oL {l:List (List Int)}{x:List Int}{i:Nat}(h:i<l.length):(l++[x]).getD i []=l.getD i []:=by
 simp only[List.getD];rw[List.getElem?_append_left h]
theorem Aa {l:List (List Int)}{x:List Int}:(l++[x]).getD l.length []=x:=by simp[List.getD]
theorem xa {l:List (List Int)}{x:List Int}{n:Nat}(h:n=l.length):(l++[x]).getD n []=x:=by subst h;exact Aa
theorem l8 {n a:Nat}(h:a<n):(unk n).getD a 0= -1:=by simp[unk,List.getD,h]
theorem TW.zero {inp:Nat}:TW inp ⟨[unk inp],[unk inp],0⟩:=by
 have e:∀ i,i<1→([unk inp]:List (List Int)).getD i []=unk inp:=λi hi=>by
  have:i=0:=ω;subst this;rfl
 refine⟨Υ _,η,rfl,λi hi=>?_,λi hi=>?_,λi a hi ha=>?_,λi a hi ha=>?_,λi a hi ha=>?_,η⟩
 ·rw[e i (by simpa using hi),nC]
 ·rw[e i (by simpa using hi),nC]
 ·unfold foE;rw[e i (by simpa using hi),l8 ha];simp
 ·unfold foE;rw[e i (by simpa using hi),l8 ha];omega
 ·unfold foE;rw[e i (by simpa using hi),l8 ha]
theorem TW.st0 {inp:Nat}{q:TST}(h:TW inp q):TW inp {q with s:=0}:=⟨h.n1,h.n2,h.ol,h.rl,h.ql,h.nr,h.or,h.eq,h.n1⟩
theorem lR {l:List (List Int)}{x a i b:Nat}{v:Int}{y:List Int}(hx:x<l.length)(ha:a<(l.getD x []).length):foE (foS l x a v++[y]) i b=if i=l.length then y.getD b 0 else if i=x∧b=a then v else foE l i b:=by
 by_cases e:i=l.length
 ·rw[if_pos e]
  unfold foE;have:(foS l x a v++[y]).getD i []=y:=by rw[e,← cM l x a v];exact Aa
  rw[this]
 ·rw[if_neg e,← fU hx ha]
  by_cases h:i<l.length
  ·unfold foE
   rw[oL (by rw[cM];exact h)]
  ·have h1:(foS l x a v++[y]).getD i []=[]:=by
    simp only[List.getD];rw[List.getElem?_eq_none (by simp[cM];omega)];rfl
   have h2:(foS l x a v).getD i []=[]:=by
    simp only[List.getD];rw[List.getElem?_eq_none (by simp[cM];omega)];rfl
   unfold foE;rw[h1,h2]
theorem TW.stp {inp:Nat}{q q':TST}(h:TW inp q){t:TRC}{j:Nat}(ha:(t.1.getD j 0).toNat<inp)(ho:0≤t.2.1.getD j 0∧t.2.1.getD j 0≤1048576)(e:trA inp t j q=some q'):TW inp q':=by
 have hs:=h.sl;have hrs:=h.rl q.s hs;have hqs:=h.ql q.s hs;have hol:=h.ol;unfold trA at e
 generalize (t.1.getD j 0).toNat=a at*
 split at e
 ·split at e
  ·cases e
  ·rename_i h1 h2
   cases e
   have hn2:=h.n2;have hl:(foS q.nx q.s a (q.nx.length:Int)++[unk inp]).length=q.nx.length+1:=by simp[cM]
   have hl2:(foS q.ot q.s a (t.2.1.getD j 0)++[unk inp]).length=q.nx.length+1:=by simp[cM,hol]
   refine⟨by rw[hl];omega,by rw[hl];omega,by rw[hl,hl2],λi hi=>?_,λi hi=>?_,λi b hi hb=>?_,λi b hi hb=>?_,λi b hi hb=>?_,by rw[hl];exact Nat.lt_succ_self _⟩
   ·rw[hl] at hi
    by_cases e:i=q.nx.length
    ·show((foS q.nx q.s a (q.nx.length:Int)++[unk inp]).getD i []).length=inp;rw[xa (by rw[cM];exact e),nC]
    ·rw[oL (by rw[cM];omega),nR];exact h.rl i ω
   ·rw[hl] at hi
    by_cases e:i=q.ot.length
    ·show((foS q.ot q.s a (t.2.1.getD j 0)++[unk inp]).getD i []).length=inp;rw[xa (by rw[cM];exact e),nC]
    ·rw[oL (by rw[cM];omega),nR];exact h.ql i ω
   ·rw[hl] at hi⊢
    rw[lR hs ω];split
    ·rw[l8 hb];omega
    ·split
     ·omega
     ·have:=h.nr i b ω hb;omega
   ·rw[hl] at hi
    rw[lR ω ω];split
    ·rw[l8 hb];omega
    ·split
     ·omega
     ·exact h.or i b ω hb
   ·rw[hl] at hi
    rw[lR hs ω,lR ω ω,hol];split
    ·rw[l8 hb]
    ·split
     ·constructor
      ·intro e;omega
      ·intro e;omega
     ·exact h.eq i b ω hb
 ·rename_i h1
  cases e
  have:=h.nr q.s a hs ha;exact⟨h.n1,h.n2,h.ol,h.rl,h.ql,h.nr,h.or,h.eq,by show(foE q.nx q.s a).toNat<q.nx.length;omega⟩
theorem TRV.stp {inp:Int}{T:List TRC}(h:TRV inp T){k j:Nat}(hk:k<T.length)(hj:j<(T.getD k aT).1.length){q q':TST}(hq:TW inp.toNat q)(e:trA inp.toNat (T.getD k aT) j q=some q'):TW inp.toNat q':=by
 have h1:=h.sy k hk j hj;exact hq.stp ω (h.or k hk j hj) e
theorem TRV.tr {inp:Int}{T:List TRC}(h:TRV inp T){k:Nat}(hk:k<T.length){q:TST}(hq:TW inp.toNat q):∀ (j:Nat) {q':TST},j≤(T.getD k aT).1.length→trT inp.toNat (T.getD k aT) q j=some q'→TW inp.toNat q'
 |0,q',_,e=>by cases e;exact hq.st0
 |j+1,q',hj,e=>by
  simp only[trT] at e
  cases e1:trT inp.toNat (T.getD k aT) q j with
  |none=>rw[e1] at e;cases e
  |some q1=>
   rw[e1,Option.bind_some] at e;exact h.stp hk ω (TRV.tr h hk hq j ω e1) e
theorem TRV.all {inp:Int}{T:List TRC}(h:TRV inp T):∀ (i:Nat) {q:TST},i≤T.length→trR inp.toNat T i=some q→TW inp.toNat q
 |0,q,_,e=>by cases e;exact TW.zero
 |i+1,q,hi,e=>by
  simp only[trR] at e
  cases e1:trR inp.toNat T i with
  |none=>rw[e1] at e;cases e
  |some q1=>
   rw[e1,Option.bind_some] at e;exact h.tr ω (TRV.all h i ω e1) _ (Υ _) e
theorem wm {inp:Nat}{t:TRC}{j:Nat}{q:TST}(h:¬foE q.nx q.s (t.1.getD j 0).toNat= -1):trA inp t j q=some {q with s:=(foE q.nx q.s (t.1.getD j 0).toNat).toNat}:=if_neg h
theorem DI {inp:Nat}{t:TRC}{j:Nat}{q:TST}(h:foE q.nx q.s (t.1.getD j 0).toNat= -1)(h2:q.nx.length=4096):trA inp t j q=none:=by unfold trA;rw[if_pos h,if_pos h2]
theorem wh {inp:Nat}{t:TRC}{j:Nat}{q:TST}(h:foE q.nx q.s (t.1.getD j 0).toNat= -1)(h2:¬q.nx.length=4096):
 trA inp t j q=some ⟨foS q.nx q.s (t.1.getD j 0).toNat q.nx.length++[unk inp],foS q.ot q.s (t.1.getD j 0).toNat (t.2.1.getD j 0)++[unk inp],q.nx.length⟩:=by unfold trA;rw[if_pos h,if_neg h2]
theorem ji {inp:Nat}{t:TRC}{q q1:TST}{j:Nat}(h:trT inp t q j=some q1):trT inp t q (j+1)=trA inp t j q1:=by simp only[trT,h,Option.bind_some]
theorem rr {inp:Nat}{t:TRC}{q:TST}{j:Nat}(h:trT inp t q j=none):∀ b,j≤b→trT inp t q b=none
 |0,hb=>by
  have:j=0:=ω;subst this;exact h
 |b+1,hb=>by
  by_cases e:j=b+1
  ·subst e;exact h
  ·simp only[trT,rr h b ω,Option.bind_none]
theorem oo {inp:Nat}{T:List TRC}{i:Nat}{q:TST}(h:trR inp T i=some q):trR inp T (i+1)=trT inp (T.getD i aT) q (T.getD i aT).1.length:=by simp only[trR,h,Option.bind_some]
theorem sV {inp:Nat}{T:List TRC}{i:Nat}(h:trR inp T i=none):∀ b,i≤b→trR inp T b=none
 |0,hb=>by
  have:i=0:=ω;subst this;exact h
 |b+1,hb=>by
  by_cases e:i=b+1
  ·subst e;exact h
  ·simp only[trR,sV h b ω,Option.bind_none]
theorem TW.pk {inp:Int}(h1:1≤inp)(h2:inp≤64){q:TST}(h:TW inp.toNat q):PK ⟨inp,0,q.nx,q.ot⟩:=
 ⟨h1,h2,h.n1,h.n2,Int.le_refl 0,by have:=h.n1;show(0:Int)<(q.nx.length:Int);omega,h.ol,λi hi=>by have:=h.rl i hi;show((q.nx.getD i []).length:Int)=inp;omega,λi hi=>by have:=h.ql i hi;show((q.ot.getD i []).length:Int)=inp;omega,λi a hi ha=>h.nr i a hi (by have:(a:Int)<inp:=ha;omega)⟩
theorem yE {inp:Int}{T:List TRC}(h:TRV inp T)(he:dY inp T=0):PRK (dD inp T):=by
 unfold dY at he;unfold dD
 cases e:lj inp T with
 |none=>rw[e] at he;cases he
 |some q=>
  have hq:=h.all _ (Υ _) e;exact(hq.pk h.i1 h.i2).rnV (λs a hs ha=>hq.or s a hs (by have:(a:Int)<inp:=ha;omega)) (λs a hs ha=>hq.eq s a hs (by have:(a:Int)<inp:=ha;omega))
def kZ (p:Mly):List Bool:=(List.replicate p.nx.length false).set 0 true
def leP (inp:Int)(T:List TRC):Mly:=if dY inp T=0 then leF (muL (dD inp T) (kZ (dD inp T))+1) (dD inp T) (kZ (dD inp T)) else zY
theorem vz {f:Nat}{m:Mly}{red:List Bool}(h:¬blA m red red.length<(red.length:Int)):leF f m red=m:=by
 cases f with
 |zero=>rfl
 |succ f=>simp only[leF];rw[if_neg h]
theorem z7 {f:Nat}{m:Mly}{red:List Bool}(h:blA m red red.length<(red.length:Int)):leF (f+1) m red=leF f (meF m red (blA m red red.length)).1 (meF m red (blA m red red.length)).2:=by
 simp only[leF];rw[if_pos h]
theorem QQ {F i:Nat}{m:Mly}{red:List Bool}{R:Mly}(hr:leF (F+1-i) m red=R)(hi:i<F+1)(h:blA m red red.length<(red.length:Int)):leF (F+1-(i+1)) (meF m red (blA m red red.length)).1 (meF m red (blA m red red.length)).2=R:=by
 rw[← hr,show F+1-i=F+1-(i+1)+1 by omega,z7 h]
def coN (m:Mly)(s:Nat)(a:Nat):Int:=if(m.nx.getD s []).getD a 0= -1 then(s:Int) else(m.nx.getD s []).getD a 0
def coO (m:Mly)(o:Int)(s:Nat)(a:Nat):Int:=if(m.nx.getD s []).getD a 0= -1 then o else(m.ot.getD s []).getD a 0
def HX (m:Mly)(s:Nat):List Int:=(List.range m.inp.toNat).map (coN m s)
def I1 (m:Mly)(o:Int)(s:Nat):List Int:=(List.range m.inp.toNat).map (coO m o s)
def o6 (m:Mly)(k:Nat):List (List Int):=(List.range k).map (HX m)
def nK (m:Mly)(o:Int)(k:Nat):List (List Int):=(List.range k).map (I1 m o)
def coM (m:Mly)(o:Int):Mly:=⟨m.inp,m.st,o6 m m.nx.length,nK m o m.nx.length⟩
def coT (f:Nat→Int)(n j:Nat):List Int:=(List.range j).map f++List.replicate (n-j) 0
theorem NE (f:Nat→Int)(n:Nat):coT f n 0=List.replicate n 0:=by simp[coT]
theorem Es (f:Nat→Int)(n:Nat):coT f n n=(List.range n).map f:=by simp[coT]
theorem EE (f:Nat→Int){n j:Nat}(h:j≤n):(coT f n j).length=n:=by
 unfold coT;rw[aq,aE,List.length_range,aB];omega
theorem nZ (f:Nat→Int){n j:Nat}(h:j<n):(coT f n j).set j (f j)=coT f n (j+1):=by
 unfold coT;have:=ov (l:=(List.range j).map f) (n:=n-j) (x:=0) (y:=f j) ω;rw[aE,List.length_range] at this;rw[this,List.range_succ,List.map_append,show n-(j+1)=n-j-1 by omega];rfl
theorem oH (f:Nat→Int){n j:Nat}{x:Int}(h:j<n):((coT f n j).set j x).set j (f j)=coT f n (j+1):=by rw[List.set_set,nZ f h]
theorem FF (m:Mly)(k:Nat):o6 m (k+1)=o6 m k++[HX m k]:=by unfold o6;rw[List.range_succ,List.map_append];rfl
theorem GB (m:Mly)(o:Int)(k:Nat):nK m o (k+1)=nK m o k++[I1 m o k]:=by unfold nK;rw[List.range_succ,List.map_append];rfl
theorem Ae (m:Mly)(k:Nat):(o6 m k).length=k:=by simp[o6]
theorem yM (m:Mly)(o:Int)(k:Nat):(nK m o k).length=k:=by simp[nK]
def pdX (v w:List Int):List Int:=v++w
def pdR (v:List Int)(B:List (List Int))(k:Nat)(D:List (List Int)):List (List Int):=(B.take k).foldl (λD w=>gp D (pdX v w)) D
def pdA (A B:List (List Int))(i:Nat):List (List Int):=(A.take i).foldl (λD v=>pdR v B B.length D) []
def pdW (A B:List (List Int)):List (List Int):=pdA A B A.length
theorem jV {v:List Int}{B:List (List Int)}{k:Nat}{D:List (List Int)}(h:k<B.length):pdR v B (k+1) D=gp (pdR v B k D) (pdX v (B.getD k [])):=by
 unfold pdR;rw[List.take_succ_eq_append_getElem h,List.foldl_append];simp[List.getD,h]
theorem rz {A B:List (List Int)}{i:Nat}(h:i<A.length):pdA A B (i+1)=pdR (A.getD i []) B B.length (pdA A B i):=by
 unfold pdA;rw[List.take_succ_eq_append_getElem h,List.foldl_append];simp[List.getD,h]
theorem Oh {α:Type}[DecidableEq α](l:List α)(x:α):(gp l x).length≤l.length+1:=by unfold gp;split<;>simp
theorem uS {v:List Int}{B:List (List Int)}{D:List (List Int)}:∀ k,k≤B.length→(pdR v B k D).length≤D.length+k
 |0,_=>by simp[pdR]
 |k+1,h=>by
  rw[jV ω];have:=Oh (pdR v B k D) (pdX v (B.getD k []));have:=uS (v:=v) (B:=B) (D:=D) k ω;omega
theorem oG {A B:List (List Int)}:∀ i,i≤A.length→(pdA A B i).length≤i*B.length
 |0,_=>by simp[pdA]
 |i+1,h=>by
  rw[rz ω,Nat.add_mul,Nat.one_mul];have:=uS (v:=A.getD i []) (B:=B) (D:=pdA A B i) B.length (Υ _);have:=oG (A:=A) (B:=B) i ω;omega
theorem vy {v:List Int}{B:List (List Int)}{D:List (List Int)}{x:List Int}:∀ k,k≤B.length→(x∈pdR v B k D↔x∈D∨∃ w,w∈B.take k∧x=pdX v w)
 |0,_=>by simp[pdR]
 |k+1,h=>by
  rw[jV ω,rq,vy k ω,List.take_succ_eq_append_getElem ω];have e:B.getD k []=B[k]:=by simp[List.getD,show k<B.length by omega]
  rw[e]
  constructor
  ·rintro((h1|⟨w,h1,h2⟩)|h1)
   ·exact .inl h1
   ·exact .inr ⟨w,List.mem_append_left _ h1,h2⟩
   ·exact .inr ⟨B[k],List.mem_append_right _ (List.mem_singleton.2 rfl),h1⟩
  ·rintro(h1|⟨w,h1,h2⟩)
   ·exact .inl (.inl h1)
   ·rcases List.mem_append.1 h1 with h1|h1
    ·exact .inl (.inr ⟨w,h1,h2⟩)
    ·simp at h1;subst h1;exact .inr h2
theorem wx {A B:List (List Int)}{x:List Int}:∀ i,i≤A.length→(x∈pdA A B i↔∃ v w,v∈A.take i∧w∈B∧x=v++w)
 |0,_=>by simp[pdA]
 |i+1,h=>by
  rw[rz ω,vy _ (Υ _),wx i ω,List.take_succ_eq_append_getElem ω,aP];have e:A.getD i []=A[i]:=by simp[List.getD,show i<A.length by omega]
  rw[e]
  constructor
  ·rintro(⟨v,w,h1,h2,h3⟩|⟨w,h1,h2⟩)
   ·exact⟨v,w,List.mem_append_left _ h1,h2,h3⟩
   ·exact⟨A[i],w,List.mem_append_right _ (List.mem_singleton.2 rfl),h1,h2⟩
  ·rintro⟨v,w,h1,h2,h3⟩
   rcases List.mem_append.1 h1 with h1|h1
   ·exact .inl ⟨v,w,h1,h2,h3⟩
   ·simp at h1;subst h1;exact .inr ⟨w,h2,h3⟩
theorem Mr {A B:List (List Int)}{x:List Int}:x∈pdW A B↔∃ v w,v∈A∧w∈B∧x=v++w:=by
 unfold pdW;rw[wx _ (Υ _),aP]
def esP (D:List (List Int)):List (KV×Int):=D.map λw=>(KV.str (jG w),(1:Int))
theorem p8 {x:List Int}(hx:KB x):∀ {D:List (List Int)},(∀ w,w∈D→KB w)→bD (esP D) (.str (jG x))=if x∈D then some 1 else none
 |[],_=>rfl
 |w::D,h=>by
  show bD ((KV.str (jG w),1)::esP D) _=_;simp only[bD]
  by_cases e:w=x
  ·subst e;simp
  ·have e2:¬KV.str (jG w)=KV.str (jG x):=λe3=>by
    simp only[KV.str.injEq] at e3;exact e (zb (h w η) hx e3)
   rw[if_neg e2,p8 hx λw' hw=>h w' (by simp[hw])];have:¬x=w:=λe3=>e e3.symm;simp[this]
theorem N9 {x:List Int}(hx:KB x){D:List (List Int)}(h:∀ w,w∈D→KB w)(hn:x∉D):f0 (esP D) (.str (jG x)) 1=esP (gp D x):=by
 unfold f0;rw[p8 hx h,if_neg hn,gg hn];simp[esP]
theorem kc:∀ {l:List (List Int)} {w:List Int},w∈dg l↔w∈l
 |[],_=>Iff.rfl
 |[x],_=>Iff.rfl
 |x::y::r,w=>by
  simp only[dg];split
  ·rename_i e;subst e
   rw[kc (l:=x::r)];simp
  ·rw[List.mem_cons,kc (l:=y::r)];exact List.mem_cons.symm
theorem ez {ws:List (List Int)}{w:List Int}:w∈wsS ws↔w∈ws:=by unfold wsS;rw[kc,gP]
theorem fy (ws:List (List Int)):(wsS ws).length≤ws.length:=by
 have h:=o9 (dp cJ ws);rw[j9] at h;exact h
theorem r8 {ws:List (List Int)}{w:List Int}(h:w∈ws):w.length≤nY ws:=by
 have key:∀ (ws:List (List Int)) (n:Nat),n≤ws.foldl (λn w=>max n w.length) n∧∀ w,w∈ws→w.length≤ws.foldl (λn w=>max n w.length) n:=by
  intro ws
  induction ws with
  |nil=>intro n;exact⟨Υ _,λw h=>by cases h⟩
  |cons x r ih=>
   intro n;obtain⟨h1,h2⟩:=ih (max n x.length);rw[List.foldl_cons];refine⟨ω,λw hw=>?_⟩;rcases List.mem_cons.1 hw with rfl|hw
   ·omega
   ·exact h2 w hw
 exact(key ws 0).2 w h
theorem Ed {ws:List (List Int)}{B:Nat}(h:∀ w,w∈ws→w.length≤B):nY ws≤B:=by
 have key:∀ (ws:List (List Int)) (n:Nat),n≤B→(∀ w,w∈ws→w.length≤B)→ws.foldl (λn w=>max n w.length) n≤B:=by
  intro ws
  induction ws with
  |nil=>intro n hn _;exact hn
  |cons x r ih=>
   intro n hn hw;rw[List.foldl_cons];exact ih _ (by have:=hw x η;omega) λw h=>hw w (by simp[h])
 exact key ws 0 (Nat.zero_le _) h
def Ad (a b:List (List Int)):List (List Int):=dp cJ (pdW (wsS a) (wsS b))
theorem KF {a b:List (List Int)}{x:List Int}:x∈Ad a b↔∃ v w,v∈a∧w∈b∧x=v++w:=by
 unfold Ad;rw[gP,Mr];simp only[ez]
def HMT (n:Mly)(L K:Nat)(nx ot:List (List Int))(φ:Int→Int):Prop:=
 ∀ x a:Nat,x<L→a<K→¬foE nx x a= -1→φ (foE nx x a)=n.nxt (φ x) a∧foE ot x a=n.out (φ x) a
structure RSP (L:Nat)(s:FST)(f:Int→Int):Prop where
 up:∀ z:Int,0≤z→z<L→f (bm s.up z)=f z
 wk:∀ p,p∈s.wk→f p.1=f p.2.1
def EQS (L:Nat)(s:FST)(x y:Int):Prop:=∀ f,RSP L s f→f x=f y
theorem EQS.mono {L:Nat}{s s':FST}(h:∀ f,RSP L s' f→RSP L s f){x y:Int}(g:EQS L s x y):EQS L s' x y:=λf hf=>g f (h f hf)
structure GDE (L:Nat)(m:Mly)(s:FST)(x z a:Nat):Prop where
 d:¬foE s.nx x a= -1
 o:foE s.ot x a=foE m.ot z a
 e:EQS L s (foE s.nx x a) (foE m.nx z a)
theorem wN {L x y a:Nat}{s s':FST}(e:foA x y s a=some s'){f:Int→Int}(h:RSP L s' f):RSP L s f:=by
 unfold foA at e;split at e
 ·cases e;exact h
 ·split at e
  ·cases e;exact⟨h.up,h.wk⟩
  ·split at e
   ·cases e
   ·cases e;exact⟨h.up,λp hp=>h.wk p (List.mem_append_left _ hp)⟩
theorem th {L n inp:Nat}{m:Mly}{s s':FST}(h:WI n inp s){x y b:Nat}(hx:x<n)(hb:b<inp)(e:foA x y s b=some s'){r z a:Nat}(g:GDE L m s r z a):GDE L m s' r z a:=by
 have hm:∀ f,RSP L s' f→RSP L s f:=λf=>wN e;have hrx:=h.rl x hx;have hqx:=h.ql x hx;have hnl:=h.nl;have hol:=h.ol;unfold foA at e;split at e
 ·cases e;exact g
 ·split at e
  ·rename_i h2
   have hne:¬(r=x∧a=b):=fun⟨e1,e2⟩=>by subst e1 e2;exact g.d h2
   cases e
   have e1:foE (foS s.nx x b (foE s.nx y b)) r a=foE s.nx r a:=by rw[fU ω ω,if_neg hne]
   have e2:foE (foS s.ot x b (foE s.ot y b)) r a=foE s.ot r a:=by rw[fU ω ω,if_neg hne]
   exact⟨by show ¬foE (foS s.nx x b (foE s.nx y b)) r a= -1;rw[e1];exact g.d,by show foE (foS s.ot x b (foE s.ot y b)) r a=_;rw[e2];exact g.o,
    by show EQS L _ (foE (foS s.nx x b (foE s.nx y b)) r a) _;rw[e1];exact g.e.mono hm⟩
  ·split at e
   ·cases e
   ·cases e;exact⟨g.d,g.o,g.e.mono hm⟩
theorem M2 {L n inp:Nat}{m:Mly}{s s':FST}(h:WI n inp s){x y b:Nat}(hx:x<n)(hb:b<inp)(e:foA x y s b=some s'){z:Nat}(g:GDE L m s y z b):GDE L m s' x z b:=by
 have hm:∀ f,RSP L s' f→RSP L s f:=λf=>wN e;have hrx:=h.rl x hx;have hqx:=h.ql x hx;have hnl:=h.nl;have hol:=h.ol;unfold foA at e;split at e
 ·rename_i h1;exact absurd h1 g.d
 ·split at e
  ·cases e
   have e1:foE (foS s.nx x b (foE s.nx y b)) x b=foE s.nx y b:=by rw[fU ω ω,if_pos ⟨rfl,rfl⟩]
   have e2:foE (foS s.ot x b (foE s.ot y b)) x b=foE s.ot y b:=by rw[fU ω ω,if_pos ⟨rfl,rfl⟩]
   exact⟨by show ¬foE (foS s.nx x b (foE s.nx y b)) x b= -1;rw[e1];exact g.d,by show foE (foS s.ot x b (foE s.ot y b)) x b=_;rw[e2];exact g.o,
    by show EQS L _ (foE (foS s.nx x b (foE s.nx y b)) x b) _;rw[e1];exact g.e.mono hm⟩
  ·rename_i h2
   split at e
   ·cases e
   ·rename_i h3
    cases e
    refine⟨h2,(Decidable.not_not.1 h3).trans g.o,λf hf=>?_⟩;have h4:=hf.wk (foE s.nx x b,(foE s.nx y b,())) η;exact h4.trans (g.e f (hm f hf))
theorem CL {L n inp:Nat}{m:Mly}{s:FST}(h:WI n inp s){x y:Nat}(hx:x<n)(hy:y<n){ro:Int→Int}
 (g:∀ z a:Nat,z<n→a<inp→¬foE m.nx z a= -1→GDE L m s (ro z).toNat z a):∀ (b:Nat) {s':FST},b≤inp→foR x y s b=some s'→
 ∀ z a:Nat,z<n→a<inp→¬foE m.nx z a= -1→GDE L m s' (if a<b then(if ro z=y then(x:Int) else ro z) else ro z).toNat z a
 |0,s',_,e,z,a,hz,ha,hd=>by cases e;simpa using g z a hz ha hd
 |b+1,s',hb,e,z,a,hz,ha,hd=>by
  simp only[foR] at e
  cases e1:foR x y s b with
  |none=>rw[e1] at e;cases e
  |some s1=>
   rw[e1,Option.bind_some] at e;have ih:=CL h hx hy g b ω e1 z a hz ha hd;have hw:=(h.foR hx hy b ω e1).1
   by_cases hab:a<b
   ·rw[if_pos hab] at ih
    rw[if_pos ω];exact th hw hx ω e ih
   ·rw[if_neg hab] at ih
    by_cases hab2:a=b
    ·subst hab2
     rw[if_pos ω]
     by_cases hy2:ro z=y
     ·rw[if_pos hy2]
      rw[hy2,az] at ih;rw[az];exact M2 hw hx ω e ih
     ·rw[if_neg hy2]
      exact th hw hx ω e ih
    ·rw[if_neg ω]
     exact th hw hx ω e ih
theorem rA {L K:Nat}{s:FST}(h0:0<s.wk.length)(hw:WI L K s)(huv:foU s=foV s){f:Int→Int}:RSP L {s with wk:=s.wk.drop 1} f↔RSP L s f:=by
 have hm:=hw.wr _ (ve h0)
 constructor
 ·intro h
  refine⟨h.up,λp hp=>?_⟩
  cases hq:s.wk with
  |nil=>rw[hq] at h0;simp at h0
  |cons q r=>
   rw[hq] at hp;rcases List.mem_cons.1 hp with rfl|hp2
   ·have e:s.wk.getD 0 (0,(0,()))=p:=by rw[hq];rfl
    unfold foU foV at huv;rw[e] at huv hm;have h1:=h.up p.1 hm.1.1 hm.1.2;have h2:=h.up p.2.1 hm.2.1 hm.2.2;have huv2:bm s.up p.1=bm s.up p.2.1:=huv;rw[← h1,← h2];show f (bm s.up p.1)=f (bm s.up p.2.1);rw[huv2]
   ·exact h.wk p (by show p∈s.wk.drop 1;rw[hq];exact hp2)
 ·intro h
  exact⟨h.up,λp hp=>h.wk p (List.mem_of_mem_drop hp)⟩
theorem wz {L K:Nat}{s:FST}(hw:WI L K s)(h0:0<s.wk.length)(hne:¬foU s=foV s){z:Int}(hz:0≤z):bm (foJ s).up z=if bm s.up z=max (foU s) (foV s) then min (foU s) (foV s) else bm s.up z:=by
 have huv:=hw.uv h0;have hf:=hw.fresh2 h0;exact Ck hw.uo ω ω ω hf.2 hf.1 z.toNat z (Υ _) hz
theorem sQ {L K:Nat}{s:FST}(hw:WI L K s)(h0:0<s.wk.length)(hne:¬foU s=foV s){f:Int→Int}:RSP L (foJ s) f↔RSP L s f:=by
 have hm:=hw.wr _ (ve h0);have huv:=hw.uv h0;have hf:=hw.fresh2 h0;have hrep:∀ z:Int,0≤z→bm (foJ s).up z=if bm s.up z=max (foU s) (foV s) then min (foU s) (foV s) else bm s.up z:=λz hz=>wz hw h0 hne hz
 have hX:bm s.up (min (foU s) (foV s))=min (foU s) (foV s):=dJ hf.2;have hY:bm s.up (max (foU s) (foV s))=max (foU s) (foV s):=dJ hf.1
 constructor
 ·intro h
  have hYX:f (max (foU s) (foV s))=f (min (foU s) (foV s)):=by
   have:=h.up (max (foU s) (foV s)) ω ω;rw[hrep _ ω,hY,if_pos rfl] at this;exact this.symm
  have hup:∀ z:Int,0≤z→z<L→f (bm s.up z)=f z:=λz hz hz2=>by
   have:=h.up z hz hz2;rw[hrep z hz] at this
   by_cases e:bm s.up z=max (foU s) (foV s)
   ·rw[if_pos e] at this
    rw[e,hYX];exact this
   ·rw[if_neg e] at this;exact this
  refine⟨hup,λp hp=>?_⟩
  cases hq:s.wk with
  |nil=>rw[hq] at h0;simp at h0
  |cons q r=>
   rw[hq] at hp;rcases List.mem_cons.1 hp with rfl|hp2
   ·have e:s.wk.getD 0 (0,(0,()))=p:=by rw[hq];rfl
    have hU:foU s=bm s.up p.1:=by unfold foU;rw[e]
    have hV:foV s=bm s.up p.2.1:=by unfold foV;rw[e]
    rw[e] at hm;rw[← hup p.1 hm.1.1 hm.1.2,← hup p.2.1 hm.2.1 hm.2.2,← hU,← hV]
    by_cases c:foU s≤foV s
    ·rw[Int.max_eq_right c,Int.min_eq_left c] at hYX;exact hYX.symm
    ·rw[Int.max_eq_left ω,Int.min_eq_right ω] at hYX;exact hYX
   ·exact h.wk p (by show p∈s.wk.drop 1;rw[hq];exact hp2)
 ·intro h
  have hUV:f (foU s)=f (foV s):=by
   have h1:=h.wk _ (ve h0);unfold foU foV;rw[h.up _ hm.1.1 hm.1.2,h.up _ hm.2.1 hm.2.2];exact h1
  refine⟨λz hz hz2=>?_,λp hp=>h.wk p (List.mem_of_mem_drop hp)⟩;rw[hrep z hz]
  by_cases e:bm s.up z=max (foU s) (foV s)
  ·rw[if_pos e,← h.up z hz hz2,e]
   by_cases c:foU s≤foV s
   ·rw[Int.max_eq_right c,Int.min_eq_left c];exact hUV
   ·rw[Int.max_eq_left ω,Int.min_eq_right ω];exact hUV.symm
  ·rw[if_neg e];exact h.up z hz hz2
def COV (L K:Nat)(m:Mly)(s:FST):Prop:=∀ z a:Nat,z<L→a<K→¬foE m.nx z a= -1→GDE L m s (bm s.up (z:Int)).toNat z a
theorem COV.step {L K:Nat}{m:Mly}{s s':FST}(hw:WI L K s)(h0:0<s.wk.length)(c:COV L K m s)(e:dr K s=some s'):COV L K m s':=by
 unfold dr at e;split at e
 ·rename_i huv
  cases e
  intro z a hz ha hd;have g:=c z a hz ha hd;exact⟨g.d,g.o,g.e.mono λf=>(rA h0 hw huv).1⟩
 ·rename_i hne
  have huv:=hw.uv h0;have hj:=hw.foJ h0 hne;have key:=CL (L:=L) (m:=m) hj (x:=(min (foU s) (foV s)).toNat) (y:=(max (foU s) (foV s)).toNat) ω ω (ro:=bm s.up) (λz a hz ha hd=>by
   have g:=c z a hz ha hd;exact⟨g.d,g.o,g.e.mono λf=>(sQ hw h0 hne).1⟩) K (Υ _) e
  intro z a hz ha hd;have g:=key z a hz ha hd;rw[if_pos ha] at g;rw[uQ _ e,wz hw h0 hne ω];rw[show(((max (foU s) (foV s)).toNat:Nat):Int)=max (foU s) (foV s) by omega,show(((min (foU s) (foV s)).toNat:Nat):Int)=min (foU s) (foV s) by omega] at g;exact g
theorem COV.run {L K:Nat}{m:Mly}(hi:K≤64):∀ (F:Nat) {s f:FST},WI L K s→COV L K m s→gi K F s=some f→COV L K m f
 |0,_,_,_,_,e=>by cases e
 |F+1,s,f,h,c,e=>by
  by_cases h0:s.wk=[]
  ·rw[ir h0] at e;cases e;exact c
  ·rw[fB h0] at e
   cases e1:dr K s with
   |none=>rw[e1] at e;cases e
   |some s1=>
    rw[e1,Option.bind_some] at e;have hp:=List.length_pos_iff.2 h0;exact COV.run hi F (h.step hi hp e1).1 (c.step h hp e1) e
theorem COV.zero (m:Mly)(s t:Int):COV m.nx.length m.inp.toNat m (gX m s t):=λz a hz ha hd=>by
 have e:(bm (gX m s t).up (z:Int)).toNat=z:=by show(bm [] (z:Int)).toNat=z;rw[dJ rfl];omega
 rw[e];exact⟨hd,rfl,λf _=>rfl⟩
theorem HMT.foA {n:Mly}{L K:Nat}{s:FST}{φ:Int→Int}(hw:WI L K s)(hh:HMT n L K s.nx s.ot φ)(hr:RSP L s φ){x y a:Nat}(hx:x<L)(hy:y<L)(ha:a<K)(hxy:φ x=φ y):
 ∃ s',foA x y s a=some s'∧HMT n L K s'.nx s'.ot φ∧RSP L s' φ:=by
 have hrx:=hw.rl x hx;have hqx:=hw.ql x hx;have hnl:=hw.nl;have hol:=hw.ol
 by_cases h1:foE s.nx y a= -1
 ·exact⟨s,xJ h1,hh,hr⟩
 ·have hya:=hh y a hy ha h1
  by_cases h2:foE s.nx x a= -1
  ·refine⟨_,xb h1 h2,λi b hi hb hd=>?_,⟨hr.up,hr.wk⟩⟩
   have e1:foE (foS s.nx x a (foE s.nx y a)) i b=if i=x∧b=a then foE s.nx y a else foE s.nx i b:=fU ω ω
   have e2:foE (foS s.ot x a (foE s.ot y a)) i b=if i=x∧b=a then foE s.ot y a else foE s.ot i b:=fU ω ω
   have hd2:¬foE (foS s.nx x a (foE s.nx y a)) i b= -1:=hd;show φ (foE (foS s.nx x a (foE s.nx y a)) i b)=_∧foE (foS s.ot x a (foE s.ot y a)) i b=_;rw[e1] at hd2⊢;rw[e2]
   by_cases c:i=x∧b=a
   ·rw[if_pos c,if_pos c]
    obtain⟨rfl,rfl⟩:=c;rw[hxy];exact hya
   ·rw[if_neg c] at hd2⊢
    rw[if_neg c];exact hh i b hi hb hd2
  ·have hxa:=hh x a hx ha h2
   have h3:foE s.ot x a=foE s.ot y a:=by rw[hxa.2,hya.2,hxy]
   refine⟨_,mM h1 h2 h3,hh,⟨hr.up,λp hp=>?_⟩⟩;rcases List.mem_append.1 hp with hp|hp
   ·exact hr.wk p hp
   ·simp at hp;subst hp
    show φ (foE s.nx x a)=φ (foE s.nx y a);rw[hxa.1,hya.1,hxy]
theorem HMT.foR {n:Mly}{L K:Nat}{s:FST}{φ:Int→Int}(hw:WI L K s)(hh:HMT n L K s.nx s.ot φ)(hr:RSP L s φ){x y:Nat}(hx:x<L)(hy:y<L)(hxy:φ x=φ y):∀ a,a≤K→
 ∃ s',foR x y s a=some s'∧HMT n L K s'.nx s'.ot φ∧RSP L s' φ
 |0,_=>⟨s,rfl,hh,hr⟩
 |a+1,ha=>by
  obtain⟨s1,e1,h1,r1⟩:=HMT.foR hw hh hr hx hy hxy a ω;obtain⟨s2,e2,h2,r2⟩:=HMT.foA (hw.foR hx hy a ω e1).1 h1 r1 hx hy (a:=a) ω hxy;exact⟨s2,by rw[dL e1];exact e2,h2,r2⟩
theorem HMT.step {n:Mly}{L K:Nat}{s:FST}{φ:Int→Int}(hw:WI L K s)(h0:0<s.wk.length)(hh:HMT n L K s.nx s.ot φ)(hr:RSP L s φ):∃ s',dr K s=some s'∧HMT n L K s'.nx s'.ot φ∧RSP L s' φ:=by
 by_cases huv:foU s=foV s
 ·exact⟨_,pU huv,hh,(rA h0 hw huv).2 hr⟩
 ·have hr2:=(sQ hw h0 huv).2 hr
  have h9:=hw.uv h0;have hf:=hw.fresh2 h0;have hxy:φ (min (foU s) (foV s))=φ (max (foU s) (foV s)):=by
   have h1:=hr2.up (max (foU s) (foV s)) ω ω;rw[wz hw h0 huv ω,dJ hf.1,if_pos rfl] at h1;exact h1
  obtain⟨s',e,h1,r1⟩:=HMT.foR (hw.foJ h0 huv) (s:=foJ s) hh hr2 (x:=(min (foU s) (foV s)).toNat) (y:=(max (foU s) (foV s)).toNat) ω ω (by
   rw[show(((max (foU s) (foV s)).toNat:Nat):Int)=max (foU s) (foV s) by omega,show(((min (foU s) (foV s)).toNat:Nat):Int)=min (foU s) (foV s) by omega];exact hxy) K (Υ _)
  exact⟨s',by unfold dr;rw[if_neg huv];exact e,h1,r1⟩
theorem HMT.run {n:Mly}{L K:Nat}(hi:K≤64){φ:Int→Int}:∀ (F:Nat) {s:FST},WI L K s→mX L s<F→HMT n L K s.nx s.ot φ→RSP L s φ→∃ f,gi K F s=some f∧HMT n L K f.nx f.ot φ∧RSP L f φ
 |0,_,_,hF,_,_=>by omega
 |F+1,s,hw,hF,hh,hr=>by
  by_cases h0:s.wk=[]
  ·exact⟨s,ir h0,hh,hr⟩
  ·have hp:=List.length_pos_iff.2 h0
   obtain⟨s1,e1,h1,r1⟩:=hh.step hw hp hr;obtain⟨w1,m1⟩:=hw.step hi hp e1;obtain⟨f,e2,h2,r2⟩:=HMT.run hi F w1 ω h1 r1;exact⟨f,by rw[fB h0,e1,Option.bind_some];exact e2,h2,r2⟩
theorem HMT.fold {n m:Mly}(hm:PK m){φ:Int→Int}(hh:HMT n m.nx.length m.inp.toNat m.nx m.ot φ){s t:Int}(hs:0≤s∧s<m.nx.length)(ht:0≤t∧t<m.nx.length)(hst:φ s=φ t):
 ∃ f,foG m s t=some f∧HMT n m.nx.length m.inp.toNat f.nx f.ot φ∧∀ z:Int,0≤z→z<m.nx.length→φ (bm f.up z)=φ z:=by
 obtain⟨f,e,h1,r1⟩:=HMT.run (n:=n) (φ:=φ) (by have:=hm.i2;omega) (mX m.nx.length (gX m s t)+1) (WI.zero hm hs ht) (Nat.lt_succ_self _) hh ⟨λz h0 _=>by show φ (bm [] z)=φ z;rw[dJ rfl],λp hp=>by
  simp only[gX,List.mem_singleton] at hp;subst hp;exact hst⟩
 exact⟨f,e,h1,r1.up⟩
theorem rS {l:List Int}{x:Int}(h:x∈l):l.getD (pos l x) 0=x:=by
 simp only[List.getD];rw[m8 h];rfl
def NUM (L K:Nat)(nx:List (List Int)):Prop:=
 ∀ t:Nat,0<t→t<L→∃ s a:Nat,s<t∧a<K∧foE nx s a=(t:Int)∧∀ s' a':Nat,bef s' a' s a→a'<K→foE nx s' a'<(t:Int)
theorem yd {l:List Int}(hn:l.Nodup){x:Int}{t:Nat}(h:x∈l.take t):pos l x<t:=by
 obtain⟨i,hi,rfl⟩:=List.getElem_of_mem h;have hi2:i<l.length:=by rw[List.length_take] at hi;omega
 have e:(l.take t)[i]=l.getD i 0:=by rw[List.getElem_take];simp[List.getD,hi2]
 rw[e,oF hn hi2];rw[List.length_take] at hi;omega
theorem PK.rnE {m:Mly}(hm:PK m){i a:Nat}(hi:i<m.uo.length)(ha:(a:Int)<m.inp):foE m.rnP.nx i a=if foE m.nx (m.uo.getD i 0).toNat a= -1 then-1 else(pos m.uo (foE m.nx (m.uo.getD i 0).toNat a):Int):=hm.rn_nx hi ha
theorem PK.rnO' {m:Mly}(hm:PK m){i a:Nat}(hi:i<m.uo.length)(ha:(a:Int)<m.inp):foE m.rnP.ot i a=if foE m.nx (m.uo.getD i 0).toNat a= -1 then-1 else foE m.ot (m.uo.getD i 0).toNat a:=hm.rn_ot hi ha
theorem PK.num {m:Mly}(hm:PK m):NUM m.rnP.nx.length m.inp.toNat m.rnP.nx:=by
 have hi1:=hm.i1;intro t h0 ht;rw[(mc m).1] at ht;obtain⟨s,a,g1,g2,g3,g4,g5⟩:=hm.uoO.fi t h0 ht;have hs:s<m.uo.length:=ω;have hnd:=hm.uoR.nd;have hrt:=hm.uoR.at_ ht;refine⟨s,a,g3,ω,?_,λs' a' hb ha'=>?_⟩
 ·rw[hm.rnE hs g2]
  have g4':foE m.nx (m.uo.getD s 0).toNat a=m.uo.getD t 0:=g4;rw[g4',if_neg ω,oF hnd ht]
 ·have hs':s'<m.uo.length:=by unfold bef at hb;omega
  rw[hm.rnE hs' ω];have h5:=g5 s' a' hb ω;have h5':foE m.nx (m.uo.getD s' 0).toNat a'= -1∨foE m.nx (m.uo.getD s' 0).toNat a'∈m.uo.take t:=h5;split
  ·omega
  ·rename_i hne
   have:=yd hnd (h5'.resolve_left hne);omega
structure PHM (m q:Mly)(κ:Nat→Nat):Prop where
 lt:∀ z:Nat,z<m.nx.length→κ z<q.nx.length
 tr:∀ z a:Nat,z<m.nx.length→a<m.inp.toNat→¬foE m.nx z a= -1→foE q.nx (κ z) a=(κ (foE m.nx z a).toNat:Int)∧foE q.ot (κ z) a=foE m.ot z a
theorem PK.rnM {m:Mly}(hm:PK m){x a:Nat}(hx:(x:Int)∈m.uo)(ha:a<m.inp.toNat)(hd:¬foE m.nx x a= -1):
 foE m.nx x a∈m.uo∧foE m.rnP.nx (pos m.uo (x:Int)) a=(pos m.uo (foE m.nx x a):Int)∧foE m.rnP.ot (pos m.uo (x:Int)) a=foE m.ot x a:=by
 have hi1:=hm.i1;have hp:=l5 hx;have hg:=rS hx;have hxx:(m.uo.getD (pos m.uo (x:Int)) 0).toNat=x:=by rw[hg];omega
 have hc:=hm.clo hp (a:=a) ω;have hc':foE m.nx (m.uo.getD (pos m.uo (x:Int)) 0).toNat a= -1∨foE m.nx (m.uo.getD (pos m.uo (x:Int)) 0).toNat a∈m.uo:=hc;rw[hxx] at hc';refine⟨hc'.resolve_left hd,?_,?_⟩
 ·rw[hm.rnE hp ω,hxx,if_neg hd]
 ·rw[hm.rnO' hp ω,hxx,if_neg hd]
theorem HMT.rn {n m:Mly}(hm:PK m){φ:Int→Int}(h:HMT n m.nx.length m.inp.toNat m.nx m.ot φ):HMT n m.rnP.nx.length m.inp.toNat m.rnP.nx m.rnP.ot λi=>φ (m.uo.getD i.toNat 0):=by
 have hi1:=hm.i1;intro x a hx ha hd;rw[(mc m).1] at hx;have hr:=hm.uoR.at_ hx;rw[hm.rnE hx ω] at hd⊢
 by_cases e:foE m.nx (m.uo.getD x 0).toNat a= -1
 ·rw[if_pos e] at hd;exact absurd rfl hd
 ·rw[hm.rnO' hx ω,if_neg e,if_neg e]
  have hc:=hm.clo hx (a:=a) ω;have hc':foE m.nx (m.uo.getD x 0).toNat a= -1∨foE m.nx (m.uo.getD x 0).toNat a∈m.uo:=hc;have h1:=h (m.uo.getD x 0).toNat a ω ha e;have e2:(((m.uo.getD x 0).toNat:Nat):Int)=m.uo.getD x 0:=ω;rw[e2] at h1;show φ (m.uo.getD (pos m.uo _:Int).toNat 0)=n.nxt (φ (m.uo.getD (x:Int).toNat 0)) a∧_=n.out (φ (m.uo.getD (x:Int).toNat 0)) a;rw[az,az,rS (hc'.resolve_left e)];exact h1
theorem DM {L x y:Nat}{s:FST}{f:Int→Int}:∀ (a:Nat) {s':FST},foR x y s a=some s'→RSP L s' f→RSP L s f
 |0,s',e,h=>by cases e;exact h
 |a+1,s',e,h=>by
  simp only[foR] at e
  cases e1:foR x y s a with
  |none=>rw[e1] at e;cases e
  |some s1=>
   rw[e1,Option.bind_some] at e;exact DM a e1 (wN e h)
theorem Dh {L K:Nat}{s s':FST}(hw:WI L K s)(h0:0<s.wk.length)(e:dr K s=some s'){f:Int→Int}(h:RSP L s' f):RSP L s f:=by
 unfold dr at e;split at e
 ·rename_i huv
  cases e
  exact(rA h0 hw huv).1 h
 ·rename_i hne
  exact(sQ hw h0 hne).1 (DM _ e h)
theorem xP {L K:Nat}(hi:K≤64){g:Int→Int}:∀ (F:Nat) {s f:FST},WI L K s→gi K F s=some f→RSP L f g→RSP L s g
 |0,_,_,_,e,_=>by cases e
 |F+1,s,f,hw,e,h=>by
  by_cases h0:s.wk=[]
  ·rw[ir h0] at e;cases e;exact h
  ·rw[fB h0] at e
   cases e1:dr K s with
   |none=>rw[e1] at e;cases e
   |some s1=>
    rw[e1,Option.bind_some] at e;have hp:=List.length_pos_iff.2 h0;exact Dh hw hp e1 (xP hi F (hw.step hi hp e1).1 e h)
theorem Lp {n:Nat}{es:List (KV×Int)}(h:UPOK n es){z:Int}(h0:0≤z):bm es (bm es z)=bm es z:=dJ (h.rep h0).2.2
structure FQM (m:Mly)(s t:Int)(f:FST):Prop where
 w:WI m.nx.length m.inp.toNat f
 st:bm f.up s=bm f.up t
 tr:∀ z a:Nat,z<m.nx.length→a<m.inp.toNat→¬foE m.nx z a= -1→
  foE (foQ m f).nx (bm f.up (z:Int)).toNat a=bm f.up (foE m.nx z a)∧foE (foQ m f).ot (bm f.up (z:Int)).toNat a=foE m.ot z a
theorem MP {m:Mly}(hm:PK m){s t:Int}(hs:0≤s∧s<m.nx.length)(ht:0≤t∧t<m.nx.length){f:FST}(hf:foG m s t=some f):FQM m s t f:=by
 have hi2:=hm.i2;have hi1:=hm.i1;have hw:=(oB hm hs ht hf).1;have hwk:=(oB hm hs ht hf).2;have hr:RSP m.nx.length f (bm f.up):=⟨λz h0 _=>Lp hw.uo h0,λp hp=>by rw[hwk] at hp;cases hp⟩
 have hc:=COV.run (m:=m) ω _ (WI.zero hm hs ht) (COV.zero m s t) hf;refine⟨hw,?_,λz a hz ha hd=>?_⟩
 ·have h1:=xP ω _ (WI.zero hm hs ht) hf hr
  exact h1.wk (s,(t,())) (by simp[gX])
 ·have g:=hc z a hz ha hd
  have hrz:=hw.uo.rep (x:=(z:Int)) ω;have e1:foE (foQ m f).nx (bm f.up (z:Int)).toNat a=g9 f.up (foE f.nx (bm f.up (z:Int)).toNat a):=qq hw ω ha;refine⟨?_,g.o⟩;rw[e1];unfold g9;rw[if_neg g.d];exact g.e _ hr
theorem FQM.mem {m:Mly}(hm:PK m)(h0:m.st=0)(hn:NUM m.nx.length m.inp.toNat m.nx){s t:Int}{f:FST}(h:FQM m s t f):∀ (k z:Nat),z≤k→z<m.nx.length→bm f.up (z:Int)∈(foQ m f).uo
 |k,z,hzk,hz=>by
  have hq:=mI hm h.w;have hi1:=hm.i1;have hqi:(foQ m f).inp=m.inp:=rfl
  by_cases hz0:z=0
  ·subst hz0
   have h1:=pP (foQ m f);have e:(foQ m f).st=bm f.up ((0:Nat):Int):=by show bm f.up m.st=_;rw[h0];rfl
   rw[← e,← h1.1];exact cP h1.2
  ·cases k with
   |zero=>omega
   |succ k=>
    obtain⟨s',a,g1,g2,g3,g4⟩:=hn z ω hz;have ih:=FQM.mem hm h0 hn h k s' ω ω;have hd:¬foE m.nx s' a= -1:=by rw[g3];omega
    have htr:=(h.tr s' a ω g2 hd).1;have hrs:=h.w.uo.rep (x:=(s':Int)) ω;have hrz:=h.w.uo.rep (x:=(z:Int)) ω;rw[g3] at htr;have hmm:(((bm f.up (s':Int)).toNat:Nat):Int)∈(foQ m f).uo:=by rw[show(((bm f.up (s':Int)).toNat:Nat):Int)=bm f.up (s':Int) by omega];exact ih
    have h9:=(hq.rnM hmm (a:=a) (by rw[hqi];exact g2) (by rw[htr];omega)).1;rw[htr] at h9;exact h9
def kpF (m:Mly)(f:FST)(z:Nat):Nat:=pos (foQ m f).uo (bm f.up (z:Int))
theorem FQM.kap {m:Mly}(hm:PK m)(h0:m.st=0)(hn:NUM m.nx.length m.inp.toNat m.nx){s t:Int}{f:FST}(h:FQM m s t f):
 PHM m (foQ m f).rnP (kpF m f)∧kpF m f 0=0∧(∀ z:Nat,z<m.nx.length→(foK m f).getD z 0=(kpF m f z:Int))∧NUM (foQ m f).rnP.nx.length m.inp.toNat (foQ m f).rnP.nx:=by
 have hq:=mI hm h.w;have hi1:=hm.i1;have hmem:∀ z,z<m.nx.length→bm f.up (z:Int)∈(foQ m f).uo:=λz hz=>h.mem hm h0 hn z z (Υ _) hz;have hnl:(foQ m f).nx.length=m.nx.length:=by show(f.nx.map _).length=_;rw[aE];exact h.w.nl
 refine⟨⟨λz hz=>?_,λz a hz ha hd=>?_⟩,?_,λz hz=>?_,hq.num⟩
 ·rw[(mc _).1];exact l5 (hmem z hz)
 ·have htr:=h.tr z a hz ha hd
  have hrz:=h.w.uo.rep (x:=(z:Int)) ω;have e2:(((bm f.up (z:Int)).toNat:Nat):Int)=bm f.up (z:Int):=ω;have hnr:=hm.nr z a hz ω;have hnr': -1≤foE m.nx z a∧foE m.nx z a<m.nx.length:=hnr;have hre:=h.w.uo.rep (x:=foE m.nx z a) ω;have h9:=hq.rnM (x:=(bm f.up (z:Int)).toNat) (a:=a) (by rw[e2];exact hmem z hz) ha (by rw[htr.1];omega);rw[e2,htr.1,htr.2] at h9;refine⟨?_,h9.2.2⟩;have e3:(((foE m.nx z a).toNat:Nat):Int)=foE m.nx z a:=ω;show foE (foQ m f).rnP.nx (pos (foQ m f).uo (bm f.up (z:Int))) a=((pos (foQ m f).uo (bm f.up (((foE m.nx z a).toNat:Nat):Int)):Nat):Int);rw[e3];exact h9.2.1
 ·have e:bm f.up ((0:Nat):Int)=(foQ m f).uo.getD 0 0:=by rw[(pP _).1];show _=bm f.up m.st;rw[h0];rfl
  unfold kpF;rw[e,oF hq.uoR.nd (pP _).2]
 ·have hrz:=h.w.uo.rep (x:=(z:Int)) ω
  have e1:(foK m f).getD z 0=(foQ m f).rnN.getD (bm f.up (z:Int)).toNat 0:=by simp[foK,List.getD,hz]
  rw[e1];show(nbO (foQ m f).nx.length (foQ m f).uo).getD _ 0=_;rw[v4 ω (by rw[hnl];omega),if_pos (hmem z hz)]
  rfl
def LET (n:Int)(w:List Int):Prop:=∀ x,x∈w→0≤x∧x<n
def LTX (m:Mly)(l:List S2):Prop:=∀ e,e∈l→LET m.inp e.2
theorem LTX.step {m:Mly}{l:List S2}(h:LTX m l){e:S2}(he:LET m.inp e.2){x:Nat}(hx:(x:Int)<m.inp):LTX m (stX m e l x):=by
 unfold stX;split
 ·exact h
 ·intro f hf
  rcases List.mem_append.1 hf with hf|hf
  ·exact h f hf
  ·simp at hf
   subst hf;intro y hy;rcases List.mem_append.1 hy with hy|hy
   ·exact he y hy
   ·simp at hy;omega
theorem LTX.row {m:Mly}{l:List S2}(h:LTX m l){e:S2}(he:LET m.inp e.2):∀ x:Nat,(x:Int)≤m.inp→LTX m (ep m e l x)
 |0,_=>by simpa [ep] using h
 |x+1,hx=>by rw[ig];exact(LTX.row h he x ω).step he ω
theorem CB {m:Mly}(hm:MOK m):∀ (f i:Nat) (l:List S2),LTX m l→LTX m (exF m f i l)
 |0,_,_,h=>h
 |f+1,i,l,h=>by
  simp only[exF];split
  ·rename_i hi
   have hi1:=hm.i1;exact CB hm f (i+1) _ (h.row (h _ (BJ hi)) m.inp.toNat ω)
  ·exact h
theorem MQ {m:Mly}(hm:MOK m):LTX m m.exR:=CB hm _ _ _ λe he=>by simp at he;subst he;intro x hx;cases hx
theorem sD {m:Mly}(hm:MOK m){w:List Int}(h:w∈cW m):LET m.inp w:=by
 unfold cW at h;rw[if_pos (ci hm)] at h;obtain⟨e,he,rfl⟩:=List.mem_map.1 h;exact MQ hm e he
theorem A9 {m:Mly}(hm:MOK m){w:List Int}:w∈ef m↔∃ u a,u∈cW m∧(a:Nat)<m.inp.toNat∧w=u++[(a:Int)]:=by
 unfold ef;rw[if_pos (ci hm),ez];unfold trO ko;rw[List.mem_flatMap]
 constructor
 ·rintro⟨u,hu,hw⟩
  obtain⟨a,ha,rfl⟩:=List.mem_map.1 hw;exact⟨u,a,hu,List.mem_range.1 ha,rfl⟩
 ·rintro⟨u,a,hu,ha,rfl⟩
  exact⟨u,hu,List.mem_map.2 ⟨a,List.mem_range.2 ha,rfl⟩⟩
theorem sE {m:Mly}(hm:MOK m){w:List Int}(h:w∈ef m):LET m.inp w∧w.length≤m.nx.length+1:=by
 obtain⟨u,a,hu,ha,rfl⟩:=(A9 hm).1 h;refine⟨λx hx=>?_,by have:=nI hm hu;simp;omega⟩;rcases List.mem_append.1 hx with hx|hx
 ·exact sD hm hu x hx
 ·simp at hx;omega
theorem jW {m:Mly}(hm:MOK m):(ef m).length≤m.nx.length*m.inp.toNat:=by
 unfold ef;rw[if_pos (ci hm)];refine Nat.le_trans (fy _) ?_;rw[qc];exact Nat.mul_le_mul_right _ (jY hm)
theorem H2 {m:Mly}:∃ r,m.exR=(m.st,[])::r:=by
 obtain⟨k,hk⟩:=D8 m (m.nx.length+1) 0 [(m.st,[])];exact⟨k,hk⟩
theorem Ki {m:Mly}(hm:MOK m):[]∈cW m:=by
 unfold cW;rw[if_pos (ci hm)];obtain⟨r,hr⟩:=H2 (m:=m);rw[hr];simp[qG]
def eY (n:Mly):List (List Int):=if(lp n).length=0 then [[]] else lp n
def gZ (n:Mly):List (List Int):=wsS [cW n,ef n].flatten
def iW (n:Mly):List (List Int):=Ad (gZ n) (eY n)
def kR (n:Mly):List (List Int):=wsS [ef n,iW n].flatten
def eh (n:Mly):List (List Int):=mxS (kR n)
theorem oR {n:Mly}{w:List Int}:w∈gZ n↔w∈cW n∨w∈ef n:=by
 unfold gZ;rw[ez];simp
theorem ou {n:Mly}{w:List Int}:w∈iW n↔∃ u e,(u∈cW n∨u∈ef n)∧e∈eY n∧w=u++e:=by
 unfold iW;rw[KF];simp only[oR]
theorem m7 {n:Mly}{w:List Int}:w∈kR n↔w∈ef n∨w∈iW n:=by
 unfold kR;rw[ez];simp
structure SMO (n:Mly):Prop where
 can:CAN n
 n5:n.nx.length≤5
 i2:n.inp≤2
theorem SMO.ok {n:Mly}(h:SMO n):MOK n:=h.can.ok
theorem CAN.min12 {n:Mly}(h:CAN n):MIN12 n:=⟨λs h0 h1=>by rw[h.rc,kr];exact⟨h0,h1⟩,λs t h0 h1 h2 h3 e=>h.ds s t h0 h1 h2 h3 e⟩
theorem SMO.ck {n:Mly}(h:SMO n):jg n=0:=by
 unfold jg;rw[if_neg (λk=>k (ci h.ok)),if_pos ((PQ (ci h.ok)).2 h.can.min12)]
theorem SMO.endOK {n:Mly}(h:SMO n):0<(eY n).length∧(eY n).length≤60∧∀ w,w∈eY n→LET n.inp w∧w.length≤145:=by
 have h5:=h.n5;have hc:=jw.all h.ok ω n.nx.length (Υ _);unfold eY;split
 ·exact⟨η,η,λw hw=>by simp at hw;subst hw;exact⟨(λx hx=>by cases hx),η⟩⟩
 ·rename_i hne
  refine⟨ω,?_,λw hw=>?_⟩
  ·unfold lp
   rw[if_pos h.ck];have h1:=fy (csS n n.nx.length);have h2:=hc.1;omega
  ·unfold lp at hw
   rw[if_pos h.ck,ez] at hw;obtain⟨h1,h2⟩:=hc.2 w hw;refine⟨λx hx=>?_,h2⟩;obtain⟨i,hi,rfl⟩:=List.getElem_of_mem hx;have:=h1.sym i hi
   simpa [List.getD,hi] using this
theorem LET.kb {n:Int}{w:List Int}(h:LET n w)(hn:n≤2):KB w:=λx hx=>by have:=h x hx;omega
theorem SMO.aOK {n:Mly}(h:SMO n):0<(gZ n).length∧(gZ n).length≤15∧∀ w,w∈gZ n→LET n.inp w∧w.length≤6:=by
 have h5:=h.n5;have h2:=h.i2;have hi1:=h.ok.i1;refine⟨List.length_pos_of_mem (oR.2 (.inl (Ki h.ok))),?_,λw hw=>?_⟩
 ·unfold gZ
  have h1:=fy [cW n,ef n].flatten;have h3:=jY h.ok;have h4:=jW h.ok;have h6:n.nx.length*n.inp.toNat≤5*2:=Nat.mul_le_mul h5 ω;have hfl:([cW n,ef n].flatten).length=(cW n).length+(ef n).length:=η;omega
 ·rcases oR.1 hw with hw|hw
  ·exact⟨sD h.ok hw,by have:=nI h.ok hw;omega⟩
  ·have:=sE h.ok hw
   exact⟨this.1,ω⟩
theorem SMO.pOK {n:Mly}(h:SMO n):(iW n).length≤900∧∀ w,w∈iW n→LET n.inp w∧w.length≤151:=by
 obtain⟨a1,a2,a3⟩:=h.aOK;obtain⟨e1,e2,e3⟩:=h.endOK;refine⟨?_,λw hw=>?_⟩
 ·unfold iW Ad
  rw[j9];unfold pdW;have h1:=oG (A:=wsS (gZ n)) (B:=wsS (eY n)) (wsS (gZ n)).length (Υ _);have h2:(wsS (gZ n)).length*(wsS (eY n)).length≤15*60:=Nat.mul_le_mul (Nat.le_trans (fy _) a2) (Nat.le_trans (fy _) e2);omega
 ·obtain⟨u,e,hu,he,rfl⟩:=ou.1 hw
  have h1:=a3 u (oR.2 hu);have h2:=e3 e he;refine⟨λx hx=>?_,by rw[aq];omega⟩;rcases List.mem_append.1 hx with hx|hx
  ·exact h1.1 x hx
  ·exact h2.1 x hx
theorem SMO.uOK {n:Mly}(h:SMO n):(kR n).length≤910∧∀ w,w∈kR n→LET n.inp w∧w.length≤151:=by
 have h5:=h.n5;have h2:=h.i2;obtain⟨p1,p2⟩:=h.pOK;refine⟨?_,λw hw=>?_⟩
 ·unfold kR
  have h1:=fy [ef n,iW n].flatten;have h4:=jW h.ok;have h6:n.nx.length*n.inp.toNat≤5*2:=Nat.mul_le_mul h5 ω;have hfl:([ef n,iW n].flatten).length=(ef n).length+(iW n).length:=η;omega
 ·rcases m7.1 hw with hw|hw
  ·have:=sE h.ok hw
   exact⟨this.1,ω⟩
  ·exact p2 w hw
def DEF (p:Mly):Nat→List Int→Prop
 |_,[]=>True
 |s,a::w=>¬foE p.nx s a.toNat= -1∧DEF p (foE p.nx s a.toNat).toNat w
def prn (p:Mly):Nat→List Int→Nat
 |s,[]=>s
 |s,a::w=>prn p (foE p.nx s a.toNat).toNat w
def pot (p:Mly):Nat→List Int→List Int
 |_,[]=>[]
 |s,a::w=>foE p.ot s a.toNat::pot p (foE p.nx s a.toNat).toNat w
theorem kJ {p:Mly}:∀ {u:List Int} {s:Nat} {w:List Int},DEF p s (u++w)↔DEF p s u∧DEF p (prn p s u) w
 |[],s,w=>by simp[DEF,prn]
 |a::u,s,w=>by simp only[aG,DEF,prn,kJ (u:=u),and_assoc]
theorem qg {p:Mly}:∀ {u:List Int} {s:Nat} {w:List Int},prn p s (u++w)=prn p (prn p s u) w
 |[],_,_=>rfl
 |a::u,s,w=>by simp only[aG,prn,qg (u:=u)]
theorem LET.tail {n a:Int}{w:List Int}(h:LET n (a::w)):(0≤a∧a<n)∧LET n w:=⟨h a η,λx hx=>h x (aQ _ hx)⟩
theorem LET.app {n:Int}{u w:List Int}(h1:LET n u)(h2:LET n w):LET n (u++w):=λx hx=>(List.mem_append.1 hx).elim (h1 x) (h2 x)
theorem PHM.run {m q:Mly}(hm:PK m){κ:Nat→Nat}(h:PHM m q κ):∀ {w:List Int} {x:Nat},LET m.inp w→x<m.nx.length→DEF m x w→DEF q (κ x) w∧pot q (κ x) w=pot m x w
 |[],_,_,_,_=>⟨trivial,rfl⟩
 |a::w,x,hl,hx,hd=>by
  obtain⟨⟨a0,a1⟩,hl2⟩:=hl.tail;obtain⟨d1,d2⟩:=hd;have ha:a.toNat<m.inp.toNat:=ω;have ht:=h.tr x a.toNat hx ha d1;have hnr:=hm.nr x a.toNat hx ω;have hnr': -1≤foE m.nx x a.toNat∧foE m.nx x a.toNat<m.nx.length:=hnr;obtain⟨i1,i2⟩:=PHM.run hm h (x:=(foE m.nx x a.toNat).toNat) hl2 ω d2;simp only[DEF,pot];rw[ht.1,az,ht.2,i2];exact⟨⟨ω,i1⟩,rfl⟩
theorem HMT.go {n m:Mly}(hm:PK m){φ:Int→Int}(h:HMT n m.nx.length m.inp.toNat m.nx m.ot φ):∀ {w:List Int} {x:Nat},LET m.inp w→x<m.nx.length→DEF m x w→(n.go (φ x) w).2=pot m x w
 |[],_,_,_,_=>rfl
 |a::w,x,hl,hx,hd=>by
  obtain⟨⟨a0,a1⟩,hl2⟩:=hl.tail;obtain⟨d1,d2⟩:=hd;have ha:a.toNat<m.inp.toNat:=ω;have ht:=h x a.toNat hx ha d1;have hnr:=hm.nr x a.toNat hx ω;have hnr': -1≤foE m.nx x a.toNat∧foE m.nx x a.toNat<m.nx.length:=hnr;have ih:=HMT.go hm h (x:=(foE m.nx x a.toNat).toNat) hl2 ω d2;have e2:(((foE m.nx x a.toNat).toNat:Nat):Int)=foE m.nx x a.toNat:=ω;have e3:((a.toNat:Nat):Int)=a:=ω;rw[e3] at ht;rw[e2,ht.1] at ih;rw[fq];simp only[pot];rw[ih,ht.2]
structure ACC (n:Mly)(acc:Nat→List Int):Prop where
 z:acc 0=[]
 lt:∀ t,t<n.nx.length→LET n.inp (acc t)
 fi:∀ t:Nat,0<t→t<n.nx.length→∃ s a:Nat,s<t∧a<n.inp.toNat∧foE n.nx s a=(t:Int)∧acc t=acc s++[(a:Int)]∧∀ s' a':Nat,bef s' a' s a→a'<n.inp.toNat→foE n.nx s' a'<(t:Int)
structure SMPL (n:Mly)(acc:Nat→List Int)(S:List Int→Prop):Prop where
 lt:∀ w,S w→LET n.inp w
 tr:∀ i a:Nat,i<n.nx.length→a<n.inp.toNat→S (acc i++[(a:Int)])
 sp:∀ i j:Nat,i<n.nx.length→j<n.nx.length→i≠j→∃ e,LET n.inp e∧(n.go i e).2≠(n.go j e).2∧(∀ x,x<n.nx.length→S (acc x++e))∧∀ x a:Nat,x<n.nx.length→a<n.inp.toNat→S (acc x++[(a:Int)]++e)
structure RPI (n:Mly)(S:List Int→Prop)(p:Mly)(red:List Bool)(k:Nat)(φ:Int→Int):Prop where
 ok:PRK p
 st:p.st=0
 inp:p.inp=n.inp
 num:NUM p.nx.length p.inp.toNat p.nx
 hm:HMT n p.nx.length p.inp.toNat p.nx p.ot φ
 rg:∀ x:Nat,x<p.nx.length→0≤φ x∧φ x<n.nx.length
 rl:red.length=p.nx.length
 rd:∀ i:Nat,i<p.nx.length→red.getD i false=decide (i<k)
 k1:1≤k
 k2:k≤p.nx.length
 fx:∀ i:Nat,i<k→φ i=i
 df:∀ w,S w→DEF p 0 w
theorem wD (n:Mly)(s a:Nat):n.nxt (s:Int) (a:Int)=foE n.nx s a:=by unfold Mly.nxt;simp
theorem Pm (s a s2 a2:Nat):bef s a s2 a2∨bef s2 a2 s a∨(s=s2∧a=a2):=by unfold bef;omega
theorem PRK.nrE {p:Mly}(h:PRK p){x a:Nat}(hx:x<p.nx.length)(ha:a<p.inp.toNat): -1≤foE p.nx x a∧foE p.nx x a<p.nx.length:=h.nr x a hx ω
theorem RPI.run {n:Mly}{acc:Nat→List Int}{S:List Int→Prop}{p:Mly}{red:List Bool}{k:Nat}{φ:Int→Int}(hA:ACC n acc)(hS:SMPL n acc S)(h:RPI n S p red k φ):∀ (f i:Nat),i≤f→i<k→DEF p 0 (acc i)∧prn p 0 (acc i)=i
 |f,i,hf,hi=>by
  have hk2:=h.k2;have hin:=h.inp
  by_cases h0:i=0
  ·subst h0;rw[hA.z];exact⟨trivial,rfl⟩
  ·cases f with
   |zero=>omega
   |succ f=>
    have hri:=h.rg i ω;rw[h.fx i hi] at hri;obtain⟨s,a,g1,g2,g3,g4,g5⟩:=hA.fi i ω ω;obtain⟨d1,d2⟩:=RPI.run hA hS h f s ω ω;have hd:=h.df _ (hS.tr s a ω g2);have hd2:=(kJ.1 hd).2;rw[d2] at hd2;simp only[DEF,az,and_true] at hd2;have hx:=h.hm s a ω (by rw[hin];exact g2) hd2;rw[h.fx s ω,wD,g3] at hx;have hxr:=h.ok.nrE (x:=s) (a:=a) ω (by rw[hin];exact g2);obtain⟨s2,a2,q1,q2,q3,q4⟩:=h.num i ω ω;have hy:=h.hm s2 a2 ω q2 (by rw[q3];omega);rw[q3,h.fx s2 ω,wD,h.fx i hi] at hy;have hxi:foE p.nx s a=(i:Int):=by
     rcases Pm s a s2 a2 with c|c|c
     ·have h4:=q4 s a c (by rw[hin];exact g2)
      obtain⟨x,hx9⟩:∃ x:Nat,foE p.nx s a=(x:Int):=⟨(foE p.nx s a).toNat,ω⟩
      rw[hx9] at hx h4;rw[h.fx x ω] at hx;have:=hx.1;omega
     ·have:=g5 s2 a2 c (by rw[← hin];exact q2)
      omega
     ·obtain⟨rfl,rfl⟩:=c;exact q3
    rw[g4];refine⟨hd,?_⟩;rw[qg,d2];simp only[prn,az];omega
theorem RPI.full {n:Mly}{acc:Nat→List Int}{S:List Int→Prop}{p:Mly}{red:List Bool}{k:Nat}{φ:Int→Int}(hA:ACC n acc)(hS:SMPL n acc S)(h:RPI n S p red k φ){i a:Nat}(hi:i<k)(ha:a<n.inp.toNat):¬foE p.nx i a= -1:=by
 have hk2:=h.k2;have hri:=h.rg i ω;rw[h.fx i hi] at hri;have hd:=h.df _ (hS.tr i a ω ha);have hd2:=(kJ.1 hd).2;rw[(h.run hA hS i i (Υ _) hi).2] at hd2;simp only[DEF,az,and_true] at hd2;exact hd2
theorem Im {red:List Bool}{B:Int}:∀ {r:List Int} {b:Int},B≤b→(∀ t,t∈r→¬t= -1→red.getD t.toNat false=false→B≤t)→B≤blR red r b
 |[],_,hb,_=>hb
 |t::r,b,hb,h=>by
  show B≤blR red r (blC red b t);refine Im ?_ λt' ht'=>h t' (aQ _ ht');unfold blC;split
  ·rename_i hc
   have:=h t η hc.1 hc.2;omega
  ·exact hb
theorem Be {red:List Bool}:∀ {r:List Int} {b:Int},blR red r b≤b
 |[],b=>Int.le_refl b
 |t::r,b=>by
  show blR red r (blC red b t)≤b;refine Int.le_trans Be ?_;unfold blC;split
  ·omega
  ·exact Int.le_refl _
theorem IT {red:List Bool}:∀ {r:List Int} {b t:Int},t∈r→¬t= -1→red.getD t.toNat false=false→blR red r b≤t
 |[],_,_,h,_,_=>by cases h
 |u::r,b,t,h,h1,h2=>by
  show blR red r (blC red b u)≤t;rcases List.mem_cons.1 h with rfl|h
  ·refine Int.le_trans Be ?_
   unfold blC;rw[if_pos ⟨h1,h2⟩];omega
  ·exact IT h h1 h2
theorem Jc {m:Mly}{red:List Bool}{B:Int}(h0:B≤red.length)(h:∀ s:Nat,s<red.length→red.getD s false=true→∀ t,t∈m.nx.getD s []→¬t= -1→red.getD t.toNat false=false→B≤t):∀ k,k≤red.length→B≤blA m red k
 |0,_=>by simpa [blA] using h0
 |k+1,hk=>by
  have ih:=Jc h0 h k ω;rw[iv];split
  ·rename_i hr
   exact Im ih (h k ω hr)
  ·exact ih
theorem sW {m:Mly}{red:List Bool}{i:Nat}:∀ d,blA m red (i+d)≤blA m red i
 |0=>Int.le_refl _
 |d+1=>by
  have ih:=sW (m:=m) (red:=red) (i:=i) d;rw[show i+(d+1)=i+d+1 by omega,iv];split
  ·exact Int.le_trans Be ih
  ·exact ih
theorem Td {m:Mly}{red:List Bool}{s:Nat}(hs:s<red.length)(hr:red.getD s false=true){t:Int}(ht:t∈m.nx.getD s [])(h1:¬t= -1)(h2:red.getD t.toNat false=false):blA m red red.length≤t:=by
 obtain⟨d,hd⟩:∃ d,red.length=s+1+d:=⟨red.length-(s+1),ω⟩
 rw[hd];refine Int.le_trans (sW d) ?_;rw[iv,if_pos hr];exact IT ht h1 h2
theorem RPI.blue {n:Mly}{S:List Int→Prop}{p:Mly}{red:List Bool}{k:Nat}{φ:Int→Int}(h:RPI n S p red k φ):blA p red red.length=(k:Int):=by
 have hk2:=h.k2;have hk1:=h.k1;have hrl:=h.rl;have hge:(k:Int)≤blA p red red.length:=Jc ω (λs hs hr t ht h1 h2=>by
  have hn:=h.ok.pk.row_rng (s:=(s:Int)) ω ω t (by show t∈p.nx.getD (s:Int).toNat [];rw[az];exact ht);rw[h.rd t.toNat ω] at h2;have:=of_decide_eq_false h2;omega) _ (Υ _)
 by_cases hk:k<p.nx.length
 ·obtain⟨s,a,g1,g2,g3,g4⟩:=h.num k ω hk
  have hle:=Td (m:=p) (red:=red) (s:=s) ω (by rw[h.rd s ω];simpa using g1) (t:=(k:Int)) (by
   rw[← g3];have hrl2:=h.ok.rl s ω;exact cP ω) ω (by rw[az,h.rd k hk];simp)
  omega
 ·have:blA p red red.length≤(red.length:Int):=by
   have:=sW (m:=p) (red:=red) (i:=0) red.length;rw[Nat.zero_add] at this;exact this
  omega
theorem RPI.only {n:Mly}{acc:Nat→List Int}{S:List Int→Prop}{p:Mly}{red:List Bool}{k:Nat}{φ:Int→Int}(hA:ACC n acc)(hS:SMPL n acc S)(h:RPI n S p red k φ)(hk:k<p.nx.length){r:Nat}(hr:r<k)(hf:foB p (r:Int) (k:Int)=true):φ k=r:=by
 obtain⟨f,hf2⟩:=Option.isSome_iff_exists.1 (show(foG p (r:Int) (k:Int)).isSome=true from hf);have hq:=MP h.ok.pk (s:=(r:Int)) (t:=(k:Int)) ω ω hf2;obtain⟨hκ,hκ0,hκ1,hnum⟩:=hq.kap h.ok.pk h.st h.num;have hrr:=h.rg r ω;have hrk:=h.rg k hk;rw[h.fx r hr] at hrr;refine Decidable.byContradiction λhne=>?_;obtain⟨j,hj⟩:∃ j:Nat,φ k=(j:Int):=⟨(φ k).toNat,ω⟩
 rw[hj] at hne hrk;obtain⟨e,e1,e2,e3,e4⟩:=hS.sp r j ω ω (λe=>hne (by rw[e]));have hin:=h.inp;have hd1:DEF p r e:=by
  have hd:=(kJ.1 (h.df _ (e3 r ω))).2;rw[(h.run hA hS r r (Υ _) hr).2] at hd;exact hd
 obtain⟨s,a,g1,g2,g3,g4⟩:=h.num k (by have:=h.k1;omega) hk;have hrs:=h.rg s ω;rw[h.fx s g1] at hrs;have hd2:DEF p k e:=by
  have hd:=(kJ.1 (h.df _ (e4 s a ω (by rw[← hin];exact g2)))).2;rw[qg,(h.run hA hS s s (Υ _) g1).2] at hd;simp only[prn,az,g3] at hd;exact hd
 have hle:LET p.inp e:=by rw[hin];exact e1
 have o1:=h.hm.go h.ok.pk hle (x:=r) ω hd1;have o2:=h.hm.go h.ok.pk hle (x:=k) hk hd2;rw[h.fx r hr] at o1;rw[hj] at o2;have k1:=(hκ.run h.ok.pk hle (x:=r) ω hd1).2;have k2:=(hκ.run h.ok.pk hle (x:=k) hk hd2).2;have e9:kpF p f r=kpF p f k:=by unfold kpF;rw[hq.st]
 rw[e9] at k1;exact e2 (by rw[o1,o2,← k1,← k2])
theorem RO {m:Mly}(hm:PK m)(h0:m.st=0)(hn:NUM m.nx.length m.inp.toNat m.nx){s t:Int}{f:FST}(h:FQM m s t f){z:Nat}(hz:z<m.nx.length):(foQ m f).uo.getD (kpF m f z) 0=bm f.up (z:Int):=
 rS (h.mem hm h0 hn z z (Υ _) hz)
theorem HMT.quot {n m:Mly}{s t:Int}{f:FST}(h:FQM m s t f){φ:Int→Int}(hh:HMT n m.nx.length m.inp.toNat f.nx f.ot φ)(hr:∀ z:Int,0≤z→z<m.nx.length→φ (bm f.up z)=φ z):
 HMT n (foQ m f).nx.length (foQ m f).inp.toNat (foQ m f).nx (foQ m f).ot φ:=by
 have hnl:(foQ m f).nx.length=m.nx.length:=by show(f.nx.map _).length=_;rw[aE];exact h.w.nl
 intro x a hx ha hd;rw[hnl] at hx;have ha2:a<m.inp.toNat:=ha;have e:foE (foQ m f).nx x a=g9 f.up (foE f.nx x a):=qq h.w hx ha2;have hnr:=h.w.nr x a hx ha2;rw[e] at hd⊢;have hd2:¬foE f.nx x a= -1:=λe2=>hd (by unfold g9;rw[if_pos e2]);unfold g9;rw[if_neg hd2,hr _ ω hnr.2];exact hh x a hx ha2 hd2
theorem Ii {k N:Nat}{cl:List Int}{red:List Bool}{L:Nat}(hrd:∀ i:Nat,i<L→red.getD i false=decide (i<k))(hcl:∀ i:Nat,i<k→cl.getD i 0=(i:Int))(hkN:k≤N):∀ j,j≤L→∀ i:Nat,i<N→(meR cl red N j).getD i false=decide (i<min j k)
 |0,_,i,hi=>by simp[meR,List.getD,hi]
 |j+1,hj,i,hi=>by
  have ih:=Ii hrd hcl hkN j ω i hi;have hl:=kE cl red N j;rw[jU];unfold meS
  by_cases hjk:j<k
  ·rw[if_pos ⟨by rw[hrd j ω];simpa using hjk,by rw[hcl j hjk];omega⟩,hcl j hjk,az]
   by_cases e:i=j
   ·subst e
    have:((meR cl red N i).set i true).getD i false=true:=by simp[List.getD,hl,hi]
    rw[this];symm;rw[decide_eq_true_eq];omega
   ·have:((meR cl red N j).set j true).getD i false=(meR cl red N j).getD i false:=by simp only[List.getD];rw[List.getElem?_set_ne (λe2=>e e2.symm)]
    rw[this,ih,decide_eq_decide];omega
  ·rw[if_neg (λhh=>by rw[hrd j ω] at hh;have:=of_decide_eq_true hh.1;omega),ih,decide_eq_decide];omega
theorem RPI.fold {n:Mly}{acc:Nat→List Int}{S:List Int→Prop}{p:Mly}{red:List Bool}{k:Nat}{φ:Int→Int}(hA:ACC n acc)(hS:SMPL n acc S)(h:RPI n S p red k φ)(hk:k<p.nx.length){r:Nat}(hr:r<k)(hφ:φ k=r):
 ∃ φ',RPI n S (meF p red (k:Int)).1 (meF p red (k:Int)).2 k φ':=by
 have hrl:=h.rl;have hin:=h.inp;obtain⟨f,hf,hh,hrep⟩:=h.hm.fold h.ok.pk (s:=(r:Int)) (t:=(k:Int)) ω ω (by rw[h.fx r hr,hφ]);have hfb:foB p (r:Int) (k:Int)=true:=by unfold foB;rw[hf];rfl
 have hme:meF p red (k:Int)=(foP p (r:Int) (k:Int),meR (foC p (r:Int) (k:Int)) red (foP p (r:Int) (k:Int)).nx.length red.length):=by
  refine BR (r:=r) ω (λq hq=>?_) ?_
  ·unfold meT
   cases hb:foB p (q:Int) (k:Int) with
   |false=>simp
   |true=>
    have:=h.only hA hS hk (r:=q) ω hb;omega
  ·unfold meT;rw[hfb,h.rd r ω];simpa using hr
 have hPe:foP p (r:Int) (k:Int)=(foQ p f).rnP:=by unfold foP;rw[hf]
 have hCe:foC p (r:Int) (k:Int)=foK p f:=by unfold foC;rw[hf]
 rw[hme,hPe,hCe];have hq:=MP h.ok.pk (s:=(r:Int)) (t:=(k:Int)) ω ω hf;obtain⟨hκ,hκ0,hκ1,hnum⟩:=hq.kap h.ok.pk h.st h.num;have hQ:=mI h.ok.pk hq.w;have hnl:(foQ p f).nx.length=p.nx.length:=by show(f.nx.map _).length=_;rw[aE];exact hq.w.nl
 have hm':=HMT.rn hQ (hh.quot hq hrep);have hφκ:∀ z:Nat,z<p.nx.length→φ ((foQ p f).uo.getD (kpF p f z) 0)=φ z:=λz hz=>by
  rw[RO h.ok.pk h.st h.num hq hz];exact hrep z ω ω
 have hPK:=Iv h.ok (s:=(r:Int)) (t:=(k:Int)) ω ω hfb;rw[hPe] at hPK;have hinp:(foQ p f).rnP.inp=p.inp:=rfl
 -- the red states keep their numbers
 have hκi:∀ (d t:Nat),t≤d→t<k→kpF p f t=t:=by
  intro d
  induction d with
  |zero=>intro t h1 h2;have:t=0:=by omega
         subst this;exact hκ0
  |succ d ih=>
   intro t h1 h2
   by_cases ht0:t=0
   ·subst ht0;exact hκ0
   obtain⟨s,a,g1,g2,g3,g4⟩:=h.num t ω ω;have hks:=ih s ω ω;have htr:=(hκ.tr s a ω g2 (by rw[g3];omega)).1;rw[hks,g3,az] at htr;have hlt:=hκ.lt t ω;have hge:t≤kpF p f t:=by
    refine Decidable.byContradiction λhlt2=>?_;have hu:=ih (kpF p f t) ω ω;have h1:=hφκ t ω;have h2':=hφκ (kpF p f t) ω;rw[hu] at h2';rw[h.fx t h2] at h1;rw[h.fx (kpF p f t) ω] at h2';rw[h1] at h2';omega
   obtain⟨s2,a2,q1,q2,q3,q4⟩:=hnum t ω ω;rcases Pm s a s2 a2 with c|c|c
   ·have:=q4 s a c g2
    omega
   ·have hd:=h.full hA hS (i:=s2) (a:=a2) ω (by rw[← hin];exact q2)
    have h9:=g4 s2 a2 c q2;have hnr:=h.ok.nrE (x:=s2) (a:=a2) ω q2;have htr2:=(hκ.tr s2 a2 ω q2 hd).1;rw[ih s2 ω ω,ih (foE p.nx s2 a2).toNat ω ω] at htr2;omega
   ·obtain⟨rfl,rfl⟩:=c
    omega
 have hkk:k≤(foQ p f).rnP.nx.length:=by
  have:=hκ.lt (k-1) ω;rw[hκi (k-1) (k-1) (Υ _) (by have:=h.k1;omega)] at this;have:=h.k1;omega
 have hcl:∀ i:Nat,i<k→(foK p f).getD i 0=(i:Int):=λi hi=>by rw[hκ1 i ω,hκi i i (Υ _) hi]
 refine⟨λi=>φ ((foQ p f).uo.getD i.toNat 0),hPK,rfl,by rw[hinp];exact hin,hnum,hm',λx hx=>?_,kE _ _ _ _,λi hi=>?_,h.k1,hkk,λi hi=>?_,λw hw=>?_⟩
 ·rw[(mc _).1] at hx
  have hr2:=hQ.uoR.at_ hx;rw[hnl] at hr2;have:=h.rg ((foQ p f).uo.getD x 0).toNat ω;rw[show((((foQ p f).uo.getD x 0).toNat:Nat):Int)=(foQ p f).uo.getD x 0 by omega] at this;rw[az];exact this
 ·rw[Ii (L:=p.nx.length) h.rd hcl hkk red.length ω i hi,decide_eq_decide]
  have:=h.k2;omega
 ·have h1:=hφκ i ω
  rw[hκi i i (Υ _) hi,h.fx i hi] at h1;rw[az];exact h1
 ·have h1:=(hκ.run h.ok.pk (x:=0) (by rw[hin];exact hS.lt w hw) ω (h.df w hw)).1
  rw[hκ0] at h1;exact h1
theorem RPI.promo {n:Mly}{acc:Nat→List Int}{S:List Int→Prop}{p:Mly}{red:List Bool}{k:Nat}{φ:Int→Int}(hA:ACC n acc)(hS:SMPL n acc S)(h:RPI n S p red k φ)(hk:k<p.nx.length)(hφ:¬φ k<k):
 RPI n S (meF p red (k:Int)).1 (meF p red (k:Int)).2 (k+1) φ:=by
 have hrl:=h.rl;have hin:=h.inp;have hk1:=h.k1;have hme:meF p red (k:Int)=(p,red.set (k:Int).toNat true):=by
  refine Ay λq hq=>?_;unfold meT
  cases hb:foB p (q:Int) (k:Int) with
  |false=>simp
  |true=>
   by_cases hqk:q<k
   ·have:=h.only hA hS hk hqk hb
    omega
   ·rw[h.rd q ω];simp;omega
 rw[hme,az];have hrk:=h.rg k hk;have hφk:φ k=k:=by
  obtain⟨s,a,g1,g2,g3,g4⟩:=h.num k ω hk;have hx:=(h.hm s a ω g2 (by rw[g3];omega)).1;rw[g3,h.fx s g1,wD] at hx;refine Decidable.byContradiction λhne=>?_;obtain⟨s1,a1,q1,q2,q3,_,q4⟩:=hA.fi k ω ω;have hd:=h.full hA hS (i:=s1) (a:=a1) q1 q2;have hy:=(h.hm s1 a1 ω (by rw[hin];exact q2) hd).1;rw[h.fx s1 q1,wD,q3] at hy;rcases Pm s a s1 a1 with c|c|c
  ·have:=q4 s a c (by rw[← hin];exact g2)
   omega
  ·have h9:=g4 s1 a1 c (by rw[hin];exact q2)
   have hnr:=h.ok.nrE (x:=s1) (a:=a1) ω (by rw[hin];exact q2);obtain⟨x,hx9⟩:∃ x:Nat,foE p.nx s1 a1=(x:Int):=⟨(foE p.nx s1 a1).toNat,ω⟩
   rw[hx9] at hy h9;rw[h.fx x ω] at hy;omega
  ·obtain⟨rfl,rfl⟩:=c
   rw[g3] at hy;exact hne hy
 refine⟨h.ok,h.st,h.inp,h.num,h.hm,h.rg,by rw[List.length_set];exact h.rl,λi hi=>?_,ω,hk,λi hi=>?_,h.df⟩
 ·by_cases e:i=k
  ·subst e
   have:(red.set i true).getD i false=true:=by simp[List.getD,hrl,hi]
   rw[this];simp
  ·have:(red.set k true).getD i false=red.getD i false:=by simp only[List.getD];rw[List.getElem?_set_ne (λe2=>e e2.symm)]
   rw[this,h.rd i hi,decide_eq_decide];omega
 ·by_cases e:i=k
  ·subst e;exact hφk
  ·exact h.fx i ω
theorem RPI.loop {n:Mly}{acc:Nat→List Int}{S:List Int→Prop}(hA:ACC n acc)(hS:SMPL n acc S)(F:Nat):∀ {p:Mly} {red:List Bool} {k:Nat} {φ:Int→Int},RPI n S p red k φ→muL p red<F→
 ∃ red' φ',RPI n S (leF F p red) red' (leF F p red).nx.length φ':=by
 induction F with
 |zero=>intro p red k φ _ hF;omega
 |succ F ih=>
  intro p red k φ h hF;have hb:=h.blue;have hrl:=h.rl
  by_cases hk:k<p.nx.length
  ·have hlt:blA p red red.length<(red.length:Int):=by rw[hb];omega
   rw[z7 hlt,hb];have hmu:=Iq h.ok hrl (b:=(k:Int)) ω (by rw[az,h.rd k hk];simp)
   by_cases hφ:φ k<k
   ·have hrk:=h.rg k hk
    obtain⟨φ',h'⟩:=h.fold hA hS hk (r:=(φ k).toNat) ω ω;exact ih h' ω
   ·exact ih (h.promo hA hS hk hφ) ω
  ·have hke:k=p.nx.length:=by have:=h.k2;omega
   rw[vz (by rw[hb];omega)];subst hke;exact⟨red,φ,h⟩
theorem RPI.end_ {n:Mly}(hn:MOK n){acc:Nat→List Int}{S:List Int→Prop}{p:Mly}{red:List Bool}{φ:Int→Int}(hA:ACC n acc)(hS:SMPL n acc S)(h:RPI n S p red p.nx.length φ):p.nx=n.nx∧p.ot=n.ot:=by
 have hin:=h.inp;have hi1:=hn.i1;have hk1:=h.k1;have hle:p.nx.length≤n.nx.length:=by
  have:=h.rg (p.nx.length-1) ω;rw[h.fx _ ω] at this;omega
 have hE:∀ x a:Nat,x<p.nx.length→a<n.inp.toNat→foE p.nx x a=foE n.nx x a∧foE p.ot x a=foE n.ot x a:=λx a hx ha=>by
  have hd:=h.full hA hS hx ha;have hnr:=h.ok.nrE (x:=x) (a:=a) hx (by rw[hin];exact ha);have hh:=h.hm x a hx (by rw[hin];exact ha) hd;rw[h.fx x hx,wD] at hh;obtain⟨y,hy⟩:∃ y:Nat,foE p.nx x a=(y:Int):=⟨(foE p.nx x a).toNat,ω⟩
  rw[hy,h.fx y ω] at hh;refine⟨by rw[hy];exact hh.1,hh.2.trans ?_⟩;unfold Mly.out;simp
 have heq:p.nx.length=n.nx.length:=by
  refine Decidable.byContradiction λhne=>?_;obtain⟨s,a,g1,g2,g3,_,_⟩:=hA.fi p.nx.length ω ω;have:=(hE s a g1 g2).1;have hnr:=h.ok.nrE (x:=s) (a:=a) g1 (by rw[hin];exact g2);omega
 have kN:∀ {A B:List (List Int)},A.length=B.length→(∀ i,i<A.length→(A.getD i []).length=n.inp.toNat)→(∀ i,i<A.length→(B.getD i []).length=n.inp.toNat)→(∀ x a:Nat,x<A.length→a<n.inp.toNat→foE A x a=foE B x a)→A=B:=by
  intro A B hl ha hb he;refine List.ext_getElem hl λi h1 h2=>?_;have ea:A[i]=A.getD i []:=by simp[List.getD,h1]
  have eb:B[i]=B.getD i []:=by simp[List.getD,h2]
  rw[ea,eb];refine List.ext_getElem (by rw[ha i h1,hb i h1]) λa g1 g2=>?_;have:=he i a h1 (by rw[← ha i h1];exact g1);unfold foE at this;have e1:(A.getD i [])[a]=(A.getD i []).getD a 0:=by
   generalize A.getD i []=r at g1;simp[List.getD,g1]
  have e2:(B.getD i [])[a]=(B.getD i []).getD a 0:=by
   generalize B.getD i []=r at g2;simp[List.getD,g2]
  rw[e1,e2];exact this
 have hol:=h.ok.ol;have hno:=hn.ol
 constructor
 ·exact kN heq (λi hi=>by have:=h.ok.rl i hi;omega) (λi hi=>by have:=hn.rl i ω;omega) λx a hx ha=>(hE x a hx ha).1
 ·exact kN ω (λi hi=>by have:=h.ok.ql i ω;omega) (λi hi=>by have:=hn.ql i ω;omega) λx a hx ha=>(hE x a ω ha).2
structure ORX (m:Mly)(l:List S2)(i j:Nat):Prop where
 cl:∀ s a:Nat,bef s a i j→(a:Int)<m.inp→(m.row (l.getD s eX0).1).getD a 0∈d9 l
 fi:∀ t:Nat,0<t→t<l.length→∃ s a:Nat,bef s a i j∧(a:Int)<m.inp∧s<t∧l.getD t eX0=((m.row (l.getD s eX0).1).getD a 0,(l.getD s eX0).2++[(a:Int)])∧
  ∀ s' a':Nat,bef s' a' s a→(a':Int)<m.inp→(m.row (l.getD s' eX0).1).getD a' 0∈d9 (l.take t)
theorem ORX.one (m:Mly):ORX m [(m.st,[])] 0 0:=⟨λs a h=>by unfold bef at h;omega,λt h1 h2=>by simp at h2;omega⟩
theorem JZ {l k:List S2}:d9 (l++k)=d9 l++d9 k:=by simp[d9]
theorem ORX.step {m:Mly}{l:List S2}{i j:Nat}(h:ORX m l i j)(hil:i<l.length)(hj:(j:Int)<m.inp):ORX m (stX m (l.getD i eX0) l j) i (j+1):=by
 have hb:∀ s a,bef s a i j→bef s a i (j+1):=λs a hh=>by unfold bef at*;omega
 by_cases hin:(m.row (l.getD i eX0).1).getD j 0∈d9 l
 ·rw[JP hin]
  refine⟨λs a hsa ha=>?_,λt h0 ht=>?_⟩
  ·by_cases e:s=i∧a=j
   ·obtain⟨rfl,rfl⟩:=e;exact hin
   ·exact h.cl s a (by unfold bef at*;omega) ha
  ·obtain⟨s,a,h1,h2,h3,h4,h5⟩:=h.fi t h0 ht
   exact⟨s,a,hb _ _ h1,h2,h3,h4,h5⟩
 ·have he:stX m (l.getD i eX0) l j=l++[((m.row (l.getD i eX0).1).getD j 0,(l.getD i eX0).2++[(j:Int)])]:=by unfold stX;rw[if_neg hin]
  rw[he];have hg:∀ s,s<l.length→∀ x:S2,(l++[x]).getD s eX0=l.getD s eX0:=λs hs x=>by simp only[List.getD];rw[List.getElem?_append_left hs]
  refine⟨λs a hsa ha=>?_,λt h0 ht=>?_⟩
  ·have hsl:s<l.length:=by unfold bef at hsa;omega
   rw[hg s hsl,JZ]
   by_cases e:s=i∧a=j
   ·obtain⟨rfl,rfl⟩:=e
    exact List.mem_append_right _ (by simp[d9])
   ·exact List.mem_append_left _ (h.cl s a (by unfold bef at*;omega) ha)
  ·by_cases htl:t<l.length
   ·obtain⟨s,a,h1,h2,h3,h4,h5⟩:=h.fi t h0 htl
    refine⟨s,a,hb _ _ h1,h2,h3,by rw[hg s ω,hg t htl];exact h4,λs' a' h6 h7=>?_⟩;rw[hg s' (by unfold bef at h6;omega),List.take_append_of_le_length ω];exact h5 s' a' h6 h7
   ·have htl2:t=l.length:=by simp at ht;omega
    subst htl2;refine⟨i,j,by unfold bef;omega,hj,hil,?_,λs' a' h6 h7=>?_⟩
    ·rw[hg i hil];simp[List.getD]
    ·rw[hg s' (by unfold bef at h6;omega),List.take_append_of_le_length (Υ _),aP]
     exact h.cl s' a' h6 h7
theorem ORX.row {m:Mly}{l:List S2}{i:Nat}(h:ORX m l i 0)(hil:i<l.length):∀ x:Nat,(x:Int)≤m.inp→ORX m (ep m (l.getD i eX0) l x) i x
 |0,_=>by simpa [ep] using h
 |x+1,hx=>by
  have ih:=ORX.row h hil x ω;have hl:=nT m (l.getD i eX0) l x;have:=ih.step ω ω;rw[Do m _ x hil] at this;rw[ig];exact this
theorem Ef {m:Mly}(hm:MOK m):∀ (f i:Nat) (l:List S2),WFX m l→m.nx.length<f+i→i≤l.length→ORX m l i 0→ORX m (exF m f i l) (exF m f i l).length 0
 |0,i,l,hw,hf,hi,_=>by have:=hw.le;omega
 |f+1,i,l,hw,hf,hi,h=>by
  have hi1:=hm.i1
  by_cases hil:i<l.length
  ·rw[Ah m f i l hil]
   have h1:=h.row hil m.inp.toNat ω;have hl:=nT m (l.getD i eX0) l m.inp.toNat;refine Ef hm f (i+1) _ (hw.row hm hil m.inp.toNat ω) ω ω ⟨λs a hsa ha=>h1.cl s a ?_ ha,λt h0 ht=>?_⟩
   ·unfold bef at*;omega
   ·obtain⟨s,a,g1,g2,g3,g4,g5⟩:=h1.fi t h0 ht
    exact⟨s,a,by unfold bef at*;omega,g2,g3,g4,g5⟩
  ·rw[DG m _ _ _ ω]
   have e:i=l.length:=ω;rw[← e];exact h
theorem PB {m:Mly}(hm:MOK m):ORX m m.exR m.exR.length 0:=Ef hm _ _ _ (qp hm) ω (Nat.zero_le _) (ORX.one m)
def acX (n:Mly)(t:Nat):List Int:=(n.exR.getD t eX0).2
theorem CAN.exl {n:Mly}(h:CAN n):n.exR.length=n.nx.length:=by
 rw[← jT,xM h.ok,h.rc,fK]
theorem CAN.exi {n:Mly}(h:CAN n){t:Nat}(ht:t<n.nx.length):(n.exR.getD t eX0).1=(t:Int):=by
 rw[← qn (by rw[h.exl];exact ht),xM h.ok,h.rc,oq ht]
theorem D2 {n:Mly}(h:CAN n){t:Nat}(ht:t<n.nx.length):acX n t∈cW n:=by
 unfold cW acX;rw[if_pos (ci h.ok)];exact List.mem_map.2 ⟨_,BJ (by rw[h.exl];exact ht),rfl⟩
theorem DN {n:Mly}(h:CAN n):ACC n (acX n):=by
 have hi1:=h.ok.i1;refine⟨?_,λt ht=>sD h.ok (D2 h ht),λt h0 ht=>?_⟩
 ·unfold acX
  obtain⟨r,hr⟩:=H2 (m:=n);rw[hr];rfl
 ·obtain⟨s,a,g1,g2,g3,g4,g5⟩:=(PB h.ok).fi t h0 (by rw[h.exl];exact ht)
  have hrow:∀ s' a':Nat,s'<n.nx.length→(n.row (n.exR.getD s' eX0).1).getD a' 0=foE n.nx s' a':=λs' a' hs'=>by
   rw[h.exi hs'];show(n.nx.getD (s':Int).toNat []).getD a' 0=_;rw[az]
  refine⟨s,a,g3,ω,?_,?_,λs' a' hb ha'=>?_⟩
  ·have:=congrArg Prod.fst g4
   rw[h.exi ht,hrow s a ω] at this;exact this.symm
  ·unfold acX;rw[g4]
  ·have hs':s'<n.nx.length:=by unfold bef at hb;omega
   have h9:=g5 s' a' hb ω;rw[hrow s' a' hs'] at h9;have e:d9 (n.exR.take t)=(rgI n.nx.length).take t:=by
    unfold d9;rw[List.map_take];have:n.exR.map (·.1)=rgI n.nx.length:=by have:=xM h.ok;rw[h.rc] at this;exact this
    rw[this]
   rw[e] at h9;obtain⟨q,hq,hq2⟩:=List.getElem_of_mem h9;have hql:q<t:=by rw[List.length_take] at hq;omega
   rw[← hq2,List.getElem_take];have:=oq (n:=n.nx.length) (i:=q) ω;have e3:(rgI n.nx.length).getD q 0=(rgI n.nx.length)[q]'(by rw[fK];omega):=by simp[List.getD,fK,show q<n.nx.length by omega]
   rw[← e3,this];omega
theorem qj (m:Mly)(s:Int){w:List Int}{j:Nat}(h:j<w.length):(m.go s w).2.getD j 0=m.out (m.go s (w.take j)).1 (w.getD j 0):=by
 have e:(m.go s w).2=(m.go s (w.take (j+1))).2++(m.go (m.go s (w.take (j+1))).1 (w.drop (j+1))).2:=by
  have h9:=y3 m s (w.take (j+1)) (w.drop (j+1));rw[List.take_append_drop] at h9;rw[h9]
 rw[e,kG m s h];have hl:(m.go s (w.take j)).2.length=j:=by rw[oD,List.length_take];omega
 simp only[List.getD,List.append_assoc];rw[List.getElem?_append_right ω,hl,Nat.sub_self]
 rfl
def qM (inp:Int)(q:TST):Mly:=⟨inp,0,q.nx,q.ot⟩
structure TEX (K:Nat)(q q':TST):Prop where
 le:q.nx.length≤q'.nx.length
 ke:∀ x b:Nat,x<q.nx.length→b<K→¬foE q.nx x b= -1→foE q'.nx x b=foE q.nx x b
theorem TEX.tr {K:Nat}{q q1 q2:TST}(h:TEX K q q1)(g:TEX K q1 q2):TEX K q q2:=⟨Nat.le_trans h.le g.le,λx b hx hb hd=>by
 have h1:=h.ke x b hx hb hd;have h2:=g.ke x b (Nat.lt_of_lt_of_le hx h.le) hb (by rw[h1];exact hd);rw[h2,h1]⟩
theorem TEX.def_ {inp:Int}{q q':TST}(hq:TW inp.toNat q)(h:TEX inp.toNat q q'):∀ {w:List Int} {x:Nat},LET inp w→x<q.nx.length→DEF (qM inp q) x w→DEF (qM inp q') x w∧prn (qM inp q') x w=prn (qM inp q) x w
 |[],_,_,_,_=>⟨trivial,rfl⟩
 |a::w,x,hl,hx,hd=>by
  obtain⟨⟨a0,a1⟩,hl2⟩:=hl.tail;obtain⟨d1,d2⟩:=hd;have hk:=h.ke x a.toNat hx ω d1;have hr:=hq.nr x a.toNat hx ω;have d1':¬foE q.nx x a.toNat= -1:=d1;have ih:=TEX.def_ hq h (x:=(foE q.nx x a.toNat).toNat) hl2 ω d2;show(¬foE q'.nx x a.toNat= -1∧DEF (qM inp q') (foE q'.nx x a.toNat).toNat w)∧prn (qM inp q') (foE q'.nx x a.toNat).toNat w=prn (qM inp q) (foE q.nx x a.toNat).toNat w;rw[hk];exact⟨⟨d1',ih.1⟩,ih.2⟩
structure TRH (n:Mly)(K:Nat)(q:TST)(φ:Int→Int):Prop where
 hm:HMT n q.nx.length K q.nx q.ot φ
 z:φ 0=0
 rg:∀ x:Nat,x<q.nx.length→0≤φ x∧φ x<n.nx.length
theorem TRH.stp {n:Mly}(hn:MOK n){q q':TST}(hq:TW n.inp.toNat q){φ:Int→Int}(h:TRH n n.inp.toNat q φ){t:TRC}{j:Nat}(ha:0≤t.1.getD j 0∧t.1.getD j 0<n.inp)
 (ho:t.2.1.getD j 0=n.out (φ q.s) (t.1.getD j 0)) (e:trA n.inp.toNat t j q=some q'):
 ∃ φ',TRH n n.inp.toNat q' φ'∧φ' q'.s=n.nxt (φ q.s) (t.1.getD j 0)∧TEX n.inp.toNat q q'∧foE q'.nx q.s (t.1.getD j 0).toNat=(q'.s:Int):=by
 have hs:=hq.sl;have hrs:=hq.rl q.s hs;have hqs:=hq.ql q.s hs;have hol:=hq.ol;have hnn:=hn.n1;obtain⟨b,hb⟩:∃ b:Nat,t.1.getD j 0=(b:Int):=⟨(t.1.getD j 0).toNat,ω⟩
 rw[hb] at ha ho;have hbK:b<n.inp.toNat:=ω;have hbt:(t.1.getD j 0).toNat=b:=ω;unfold trA at e;rw[hbt] at e⊢;rw[hb];split at e
 ·rename_i h1
  split at e
  ·cases e
  ·cases e
   have hE1:∀ i c:Nat,foE (foS q.nx q.s b (q.nx.length:Int)++[unk n.inp.toNat]) i c=if i=q.nx.length then(unk n.inp.toNat).getD c 0 else if i=q.s∧c=b then(q.nx.length:Int) else foE q.nx i c:=λi c=>lR hs ω
   have hE2:∀ i c:Nat,foE (foS q.ot q.s b (t.2.1.getD j 0)++[unk n.inp.toNat]) i c=if i=q.ot.length then(unk n.inp.toNat).getD c 0 else if i=q.s∧c=b then t.2.1.getD j 0 else foE q.ot i c:=λi c=>lR ω ω
   have hl:(foS q.nx q.s b (q.nx.length:Int)++[unk n.inp.toNat]).length=q.nx.length+1:=by simp[cM]
   have hrg:0≤n.nxt (φ q.s) b∧n.nxt (φ q.s) b<n.nx.length:=by
    have h2:=h.rg q.s hs;have h3:=hn.nr (φ q.s).toNat b ω ha.2;exact h3
   refine⟨λz=>if z=(q.nx.length:Int) then n.nxt (φ q.s) b else φ z,⟨λx c hx hc hd=>?_,?_,λx hx=>?_⟩,?_,⟨?_,λx c hx hc hd=>?_⟩,?_⟩
   ·have hx':x<(foS q.nx q.s b (q.nx.length:Int)++[unk n.inp.toNat]).length:=hx
    rw[hl] at hx';have hd':¬foE (foS q.nx q.s b (q.nx.length:Int)++[unk n.inp.toNat]) x c= -1:=hd;show(if foE (foS q.nx q.s b (q.nx.length:Int)++[unk n.inp.toNat]) x c=(q.nx.length:Int) then _ else φ (foE (foS q.nx q.s b (q.nx.length:Int)++[unk n.inp.toNat]) x c))=_∧foE (foS q.ot q.s b (t.2.1.getD j 0)++[unk n.inp.toNat]) x c=_;rw[hE1] at hd'⊢;rw[hE2,hol]
    by_cases c1:x=q.nx.length
    ·rw[if_pos c1,l8 hc] at hd';exact absurd rfl hd'
    ·rw[if_neg c1] at hd'⊢
     rw[if_neg c1,if_neg (show ¬(x:Int)=(q.nx.length:Int) by omega)]
     by_cases c2:x=q.s∧c=b
     ·obtain⟨rfl,rfl⟩:=c2
      have c3:q.s=q.s∧c=c:=⟨rfl,rfl⟩
      rw[if_pos c3,if_pos rfl,if_pos c3];exact⟨rfl,ho⟩
     ·rw[if_neg c2] at hd'⊢
      rw[if_neg c2];have hr:=hq.nr x c ω hc;rw[if_neg (show ¬foE q.nx x c=(q.nx.length:Int) by omega)];exact h.hm x c ω hc hd'
   ·show(if(0:Int)=(q.nx.length:Int) then _ else φ 0)=0
    rw[if_neg (by have:=hq.n1;omega)];exact h.z
   ·have hx':x<(foS q.nx q.s b (q.nx.length:Int)++[unk n.inp.toNat]).length:=hx
    rw[hl] at hx';show 0≤(if(x:Int)=(q.nx.length:Int) then n.nxt (φ q.s) b else φ x)∧(if(x:Int)=(q.nx.length:Int) then n.nxt (φ q.s) b else φ x)<_;split
    ·exact hrg
    ·exact h.rg x ω
   ·show(if((q.nx.length:Nat):Int)=(q.nx.length:Int) then _ else _)=_
    rw[if_pos rfl]
   ·show q.nx.length≤(foS q.nx q.s b (q.nx.length:Int)++[unk n.inp.toNat]).length
    omega
   ·show foE (foS q.nx q.s b (q.nx.length:Int)++[unk n.inp.toNat]) x c=_
    rw[hE1,if_neg ω,if_neg (fun⟨c1,c2⟩=>by subst c1 c2;exact hd h1)]
   ·show foE (foS q.nx q.s b (q.nx.length:Int)++[unk n.inp.toNat]) q.s b=_
    rw[hE1,if_neg ω,if_pos ⟨rfl,rfl⟩]
 ·rename_i h1
  cases e
  have hr:=hq.nr q.s b hs hbK;have hh:=h.hm q.s b hs hbK h1;have e2:(((foE q.nx q.s b).toNat:Nat):Int)=foE q.nx q.s b:=ω;refine⟨φ,⟨h.hm,h.z,h.rg⟩,?_,⟨Υ _,λ_ _ _ _ _=>rfl⟩,?_⟩
  ·show φ (((foE q.nx q.s b).toNat:Nat):Int)=_
   rw[e2];exact hh.1
  ·show foE q.nx q.s b=(((foE q.nx q.s b).toNat:Nat):Int)
   omega
structure TOF (n:Mly)(t:TRC):Prop where
 lt:LET n.inp t.1
 ot:t.2.1=(n.go 0 t.1).2
 or:∀ j,j<t.1.length→0≤t.2.1.getD j 0∧t.2.1.getD j 0≤1048576
theorem TOF.sy {n:Mly}{t:TRC}(h:TOF n t){j:Nat}(hj:j<t.1.length):0≤t.1.getD j 0∧t.1.getD j 0<n.inp:=h.lt _ (cP hj)
theorem LET.take {n:Int}{w:List Int}(h:LET n w)(j:Nat):LET n (w.take j):=λx hx=>h x (List.mem_of_mem_take hx)
theorem TRH.trc {n:Mly}(hn:MOK n){q:TST}(hq:TW n.inp.toNat q){φ:Int→Int}(h:TRH n n.inp.toNat q φ){t:TRC}(ht:TOF n t):∀ (j:Nat) {q':TST},j≤t.1.length→trT n.inp.toNat t q j=some q'→
 TW n.inp.toNat q'∧TEX n.inp.toNat q q'∧DEF (qM n.inp q') 0 (t.1.take j)∧prn (qM n.inp q') 0 (t.1.take j)=q'.s∧∃ φ',TRH n n.inp.toNat q' φ'∧φ' q'.s=(n.go 0 (t.1.take j)).1
 |0,q',_,e=>by
  cases e
  exact⟨hq.st0,⟨Υ _,λ_ _ _ _ _=>rfl⟩,by simp[DEF],by simp[prn],φ,⟨h.hm,h.z,h.rg⟩,by simpa [Mly.go] using h.z⟩
 |j+1,q',hj,e=>by
  simp only[trT] at e
  cases e1:trT n.inp.toNat t q j with
  |none=>rw[e1] at e;cases e
  |some q1=>
   rw[e1,Option.bind_some] at e;obtain⟨w1,x1,d1,p1,φ1,h1,g1⟩:=TRH.trc hn hq h ht j ω e1;have hsy:=ht.sy (j:=j) ω;have hor:=ht.or j ω;have ho:t.2.1.getD j 0=n.out (φ1 q1.s) (t.1.getD j 0):=by rw[g1,ht.ot];exact qj n 0 ω
   obtain⟨φ',h2,g2,x2,s2⟩:=h1.stp hn w1 hsy ho e;have hw:=w1.stp (t:=t) (j:=j) ω hor e;have hn1:=hq.n1;have dd:=x2.def_ w1 (ht.lt.take j) (by have:=x1.le;omega) d1;have hd2:¬foE q'.nx q1.s (t.1.getD j 0).toNat= -1:=by rw[s2];omega
   refine⟨hw,x1.tr x2,?_,?_,φ',h2,?_⟩
   ·rw[dx ω]
    refine kJ.2 ⟨dd.1,?_⟩;rw[dd.2,p1];exact⟨hd2,trivial⟩
   ·rw[dx ω,qg,dd.2,p1]
    show(foE q'.nx q1.s (t.1.getD j 0).toNat).toNat=q'.s;rw[s2];omega
   ·rw[g2,kG n 0 ω,g1]
theorem TRH.all {n:Mly}(hn:MOK n){T:List TRC}(hT:∀ k,k<T.length→TOF n (T.getD k aT)):∀ (i:Nat) {q:TST},i≤T.length→trR n.inp.toNat T i=some q→
 TW n.inp.toNat q∧(∃ φ,TRH n n.inp.toNat q φ)∧∀ k,k<i→DEF (qM n.inp q) 0 (T.getD k aT).1
 |0,q,_,e=>by
  cases e
  refine⟨TW.zero,⟨λ_=>0,⟨λx a hx ha hd=>?_,rfl,λx hx=>?_⟩⟩,λk hk=>by omega⟩
  ·have hx0:x=0:=by simpa using hx
   subst hx0;exact absurd (l8 ha) hd
  ·have:=hn.n1;show(0:Int)≤0∧(0:Int)<_;omega
 |i+1,q,hi,e=>by
  simp only[trR] at e
  cases e1:trR n.inp.toNat T i with
  |none=>rw[e1] at e;cases e
  |some q1=>
   rw[e1,Option.bind_some] at e;obtain⟨w1,⟨φ1,h1⟩,d1⟩:=TRH.all hn hT i ω e1;obtain⟨w2,x2,d2,_,φ2,h2,_⟩:=h1.trc hn w1 (hT i ω) _ (Υ _) e;refine⟨w2,⟨φ2,h2⟩,λk hk=>?_⟩
   by_cases hki:k=i
   ·subst hki
    rw[aP] at d2;exact d2
   ·exact(x2.def_ w1 (hT k ω).lt (by have:=w1.n1;omega) (d1 k ω)).1
def OBT (n:Mly)(T:List TRC)(w:List Int):Prop:=LET n.inp w∧∃ k,k<T.length∧∃ r,(T.getD k aT).1=w++r
theorem Kb {n:Mly}(hn:MOK n){T:List TRC}(hT:∀ k,k<T.length→TOF n (T.getD k aT))(hV:TRV n.inp T)(he:dY n.inp T=0):∃ φ,RPI n (OBT n T) (dD n.inp T) (kZ (dD n.inp T)) 1 φ:=by
 have hok:=yE hV he;unfold dY at he
 cases e:lj n.inp T with
 |none=>rw[e] at he;cases he
 |some q=>
  obtain⟨w,⟨φ,h⟩,d⟩:=TRH.all hn hT T.length (Υ _) e;have hP:dD n.inp T=(qM n.inp q).rnP:=by unfold dD;rw[e];rfl
  rw[hP] at hok⊢;have hpk:PK (qM n.inp q):=w.pk hn.i1 hn.i2;have hn1:=w.n1;have hu0:=pP (qM n.inp q);have hm':HMT n (qM n.inp q).rnP.nx.length (qM n.inp q).inp.toNat (qM n.inp q).rnP.nx (qM n.inp q).rnP.ot λi=>φ ((qM n.inp q).uo.getD i.toNat 0):=HMT.rn hpk h.hm;have key:∀ {w':List Int} {x:Nat},LET n.inp w'→(x:Int)∈(qM n.inp q).uo→DEF (qM n.inp q) x w'→DEF (qM n.inp q).rnP (pos (qM n.inp q).uo (x:Int)) w':=by
   intro w'
   induction w' with
   |nil=>intro x _ _ _;trivial
   |cons a w' ih=>
    intro x hl hx hd;obtain⟨⟨a0,a1⟩,hl2⟩:=hl.tail;obtain⟨d1,d2⟩:=hd;have h9:=hpk.rnM hx (a:=a.toNat) (by show a.toNat<n.inp.toNat;omega) d1;have hr:=hpk.uoR.rng _ h9.1;have e2:(((foE (qM n.inp q).nx x a.toNat).toNat:Nat):Int)=foE (qM n.inp q).nx x a.toNat:=ω;have h10:=ih hl2 (by rw[e2];exact h9.1) d2;rw[e2] at h10;refine⟨by rw[h9.2.1];omega,?_⟩;rw[h9.2.1,az];exact h10
  refine⟨_,hok,rfl,rfl,hpk.num,hm',λx hx=>?_,?_,λi hi=>?_,Υ _,?_,λi hi=>?_,λw' hw'=>?_⟩
  ·rw[(mc _).1] at hx
   have hr:=hpk.uoR.at_ hx;have:=h.rg ((qM n.inp q).uo.getD x 0).toNat (by have h9:=hr.2;have:(qM n.inp q).nx.length=q.nx.length:=rfl;omega);rw[show((((qM n.inp q).uo.getD x 0).toNat:Nat):Int)=(qM n.inp q).uo.getD x 0 by omega] at this;show 0≤φ ((qM n.inp q).uo.getD (x:Int).toNat 0)∧φ ((qM n.inp q).uo.getD (x:Int).toNat 0)<_;rw[az];exact this
  ·unfold kZ;simp
  ·unfold kZ
   by_cases hi0:i=0
   ·subst hi0
    simp[List.getD,show 0<(qM n.inp q).rnP.nx.length from hi]
   ·have:((List.replicate (qM n.inp q).rnP.nx.length false).set 0 true).getD i false=false:=by
     simp only[List.getD];rw[List.getElem?_set_ne (λe=>hi0 e.symm)];simp[hi]
    rw[this];symm;rw[decide_eq_false_iff_not];omega
  ·exact hok.n1
  ·have:i=0:=by omega
   subst this;show φ ((qM n.inp q).uo.getD (((0:Nat):Int)).toNat 0)=((0:Nat):Int);have:(qM n.inp q).uo.getD 0 0=0:=hu0.1;rw[show(((0:Nat):Int)).toNat=0 from rfl,this];exact h.z
  ·obtain⟨hl,k,hk,r,hr⟩:=hw'
   have hd:=d k hk;rw[hr] at hd;have hz:(((0:Nat):Int))∈(qM n.inp q).uo:=by
    have:=cP hu0.2;rw[hu0.1] at this;exact this
   have h10:=key hl hz (kJ.1 hd).1;have hp0:pos (qM n.inp q).uo (((0:Nat):Int))=0:=by
    have h11:=oF hpk.uoR.nd hu0.2;rw[hu0.1] at h11;exact h11
   rw[hp0] at h10;exact h10
theorem Bl {n:Mly}(h:CAN n){T:List TRC}(hT:∀ k,k<T.length→TOF n (T.getD k aT))(hV:TRV n.inp T)(hS:SMPL n (acX n) (OBT n T))(he:dY n.inp T=0):
 PRK (leP n.inp T)∧(leP n.inp T).inp=n.inp∧(leP n.inp T).st=0∧(leP n.inp T).nx=n.nx∧(leP n.inp T).ot=n.ot:=by
 obtain⟨φ,h0⟩:=Kb h.ok hT hV he;obtain⟨red',φ',h1⟩:=RPI.loop (DN h) hS (muL (dD n.inp T) (kZ (dD n.inp T))+1) h0 (Nat.lt_succ_self _);have e:leP n.inp T=leF (muL (dD n.inp T) (kZ (dD n.inp T))+1) (dD n.inp T) (kZ (dD n.inp T)):=by unfold leP;rw[if_pos he]
 rw[← e] at h1;have h2:=h1.end_ h.ok (DN h) hS;exact⟨h1.ok,h1.inp,h1.st,h2.1,h2.2⟩
def mr:Mly:=⟨2,0,[[1,0],[2,0],[1,0]],[[1,0],[1,2],[1,2]]⟩
theorem oV {m:Mly}(h:aK m=0):m.mres=m.minm:=if_pos h
theorem zL (x y:Mly):kz x y=true↔x=y:=by
 unfold kz;obtain⟨a1,a2,a3,a4⟩:=x;obtain⟨b1,b2,b3,b4⟩:=y;simp only[Mly.mk.injEq,Bool.and_eq_true,decide_eq_true_eq,and_assoc]
end Go.AV
