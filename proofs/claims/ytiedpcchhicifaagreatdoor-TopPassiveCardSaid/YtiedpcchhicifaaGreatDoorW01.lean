/- Part of the proof. -/
import Derived.Test.YtiedpcchhicifaaGreatDoorW00
set_option linter.unusedSimpArgs false
set_option linter.unusedVariables false
set_option maxRecDepth 100000
set_option maxHeartbeats 4000000
open Option.some renaming injEq→Λ
open Nat renaming le_refl→Υ
namespace Go.AV
open List renaming length_append→aq,map_cons→aJ,map_nil→aV,length_cons→ax,length_nil→aF,length_map→aE,mem_cons_self→ba,mem_cons_of_mem→aQ
open Int renaming toNat_natCast→az
structure Mpr where
 inp:Int
 ab:Int
 st:Int
 nx:List (List Int)
 sy:List (List Int)
def Mpr.av (p:Mpr):AV:=.agg [.int .i64 p.inp,.int .i64 p.ab,.int .i64 p.st,.list Γ p.nx,.list Γ p.sy]
def Mpr.bad (p:Mpr)(s c:Nat):Prop:=(p.nx.getD s []).getD c 0<0∨(p.nx.length:Int)≤(p.nx.getD s []).getD c 0∨(p.sy.getD s []).getD c 0<0∨p.ab≤(p.sy.getD s []).getD c 0
instance (p:Mpr)(s c:Nat):Decidable (p.bad s c):=by unfold Mpr.bad;infer_instance
def LO (p:Mpr)(s:Nat):Int:=if ¬((p.nx.getD s []).length:Int)=p.inp∨¬((p.sy.getD s []).length:Int)=p.inp then 1 else if(List.range p.inp.toNat).any (λc=>decide (p.bad s c))=true then 2 else 0
def GO (p:Mpr):Int:=if(p.inp<1∨64<p.inp)∨p.ab<1∨64<p.ab then 2 else if p.nx.length=0 then 19 else if 128<p.nx.length then 11 else if p.st<0∨(p.nx.length:Int)≤p.st then 2 else if ¬p.sy.length=p.nx.length then 1 else dC (LO p) p.nx.length
def Td {p:Mpr}{s:Nat}(h:((p.nx.getD s []).length:Int)=p.inp∧((p.sy.getD s []).length:Int)=p.inp)(hb:∀ c:Nat,(c:Int)<p.inp→¬p.bad s c):LO p s=0:=by
 unfold LO;rw[if_neg ω,if_neg];intro hh;obtain⟨c,hc,h2⟩:=List.any_eq_true.1 hh;have:=List.mem_range.1 hc;exact hb c ω (by simpa using h2)
structure POK (p:Mpr):Prop where
 i1:1≤p.inp
 i2:p.inp≤64
 b1:1≤p.ab
 b2:p.ab≤64
 n1:1≤p.nx.length
 n2:p.nx.length≤128
 s1:0≤p.st
 s2:p.st<p.nx.length
 sl:p.sy.length=p.nx.length
 rl:∀ s:Nat,s<p.nx.length→((p.nx.getD s []).length:Int)=p.inp
 ql:∀ s:Nat,s<p.nx.length→((p.sy.getD s []).length:Int)=p.inp
 cl:∀ s c:Nat,s<p.nx.length→(c:Int)<p.inp→0≤(p.nx.getD s []).getD c 0∧(p.nx.getD s []).getD c 0<p.nx.length
 yl:∀ s c:Nat,s<p.nx.length→(c:Int)<p.inp→0≤(p.sy.getD s []).getD c 0∧(p.sy.getD s []).getD c 0<p.ab
def POK.valid {p:Mpr}(h:POK p):GO p=0:=by
 have a1:=h.i1;have a2:=h.i2;have a3:=h.b1;have a4:=h.b2;have a5:=h.n1;have a6:=h.n2;have a7:=h.s1;have a8:=h.s2;have a9:=h.sl;unfold GO;rw[if_neg ω,if_neg ω,if_neg ω,if_neg ω,if_neg ω];exact bG λs hs=>Td ⟨h.rl s hs,h.ql s hs⟩ λc hc hb=>by
  have:=h.cl s c hs hc;have:=h.yl s c hs hc;unfold Mpr.bad at hb;omega
def Mpr.tx (p:Mpr)(s c:Int):Int:=(p.nx.getD s.toNat []).getD c.toNat 0
def Mpr.sx (p:Mpr)(s c:Int):Int:=(p.sy.getD s.toNat []).getD c.toNat 0
def POK.tx {p:Mpr}(h:POK p){s c:Int}(hs:0≤s∧s<p.nx.length)(hc:0≤c∧c<p.inp):0≤p.tx s c∧p.tx s c<p.nx.length:=h.cl s.toNat c.toNat ω ω
def POK.sx {p:Mpr}(h:POK p){s c:Int}(hs:0≤s∧s<p.nx.length)(hc:0≤c∧c<p.inp):0≤p.sx s c∧p.sx s c<p.ab:=h.yl s.toNat c.toNat ω ω
def Mpr.rn (p:Mpr)(s:Int)(w:List Int):Int:=w.foldl (λs c=>p.tx s c) s
def Mpr.im (p:Mpr):Int→List Int→List Int
 |_,[]=>[]
 |s,c::w=>p.sx s c::p.im (p.tx s c) w
abbrev SS:=List Int×List Int
def ss0:SS:=([],[])
def TK:List SS→List Int→Nat
 |[],_=>0
 |s::S,x=>if s.1=x then 0 else TK S x+1
structure SB (m:Mly)(p:Mpr)(xs:List Int):Prop where
 ord:xs.Pairwise (· < ·)
 pos:0<xs.length
 rng:∀ x∈xs,0≤x∧x<p.nx.length*m.nx.length
def SB.kb {m:Mly}{p:Mpr}{xs:List Int}(h:SB m p xs)(hm:MOK m)(hp:POK p):KB xs:=λx hx=>by
 have:=h.rng x hx;have h8:(p.nx.length:Int)*m.nx.length≤128*128:=Int.mul_le_mul (by have:=hp.n2;omega) (by have:=hm.n2;omega) ω ω;omega
theorem tO:∀ {xs:List Int} {a b:Int},xs.Pairwise (· < ·)→(∀ x∈xs,a≤x∧x<b)→(xs.length:Int)≤b-a∨xs=[]
 |[],_,_,_,_=>.inr rfl
 |x::xs,a,b,h,hr=>.inl (by
  obtain⟨h1,h2⟩:=List.pairwise_cons.1 h;have hx:=hr x (ba ..);rcases tO (a:=x+1) (b:=b) h2 (λy hy=>⟨by have:=h1 y hy;omega,(hr y (aQ _ hy)).2⟩) with e|e
  ·simp only[ax];omega
  ·rw[e];simp only[ax,aF];omega)
def SB.len {m:Mly}{p:Mpr}{xs:List Int}(h:SB m p xs)(hm:MOK m)(hp:POK p):xs.length≤16384:=by
 have h8:(p.nx.length:Int)*m.nx.length≤128*128:=Int.mul_le_mul (by have:=hp.n2;omega) (by have:=hm.n2;omega) ω ω;rcases tO h.ord h.rng with e|e
 ·omega
 ·rw[e];simp
structure Mres where
 my:Mly
 w:List Int
 a:Int
 b:Int
 f:Bool
 e:Int
structure MS where
 S:List SS
 N:List (List Int)
 O:List (List Int)
 nr:List Int
 os:List Int
structure SVM (m:Mly)(p:Mpr)(k:Nat)(S:List SS):Prop where
 sb:∀ s∈S,SB m p s.1
 wl:∀ s∈S,s.2.length≤k
 le:S.length≤128
def SVM.at_ {m:Mly}{p:Mpr}{k i:Nat}{S:List SS}(h:SVM m p k S)(hi:i<S.length):SB m p (S.getD i ss0).1∧(S.getD i ss0).2.length≤k:=by
 have:S.getD i ss0∈S:=by simp[List.getD,hi]
 exact⟨h.sb _ this,h.wl _ this⟩
def SVM.kb {m:Mly}{p:Mpr}{k:Nat}{S:List SS}(h:SVM m p k S)(hm:MOK m)(hp:POK p):∀ s∈S,KB s.1:=λs hs=>(h.sb s hs).kb hm hp
def Mres.av (r:Mres):AV:=.tup [r.my.av,.agg [.list Θ r.w,.int .i64 r.a,.int .i64 r.b],.one (.bool r.f),.one (.int .i64 r.e)]
structure F12 where
 Q:List SS
 res:Option (Option (List Int))
def To (Q:List SS)(i a:Nat):List Int:=(Q.getD i ss0).2++[(a:Int)]
def Tx (m:Mly)(Q:List SS)(i a:Nat):List Int:=xY m (Q.getD i ss0).1 a
def Us (m:Mly)(i:Nat)(t:F12)(a:Nat):F12:=
 match t.res with
 |some _=>t
 |none=>
  if unS m (t.Q.getD i ss0).1 a (t.Q.getD i ss0).1.length=true then t
  else if smO m (t.Q.getD i ss0).1 a (t.Q.getD i ss0).1.length=false then⟨t.Q,some (some (To t.Q i a))⟩
  else if TK t.Q (Tx m t.Q i a)<t.Q.length then t
  else if 4096≤t.Q.length then⟨t.Q,some none⟩
  else⟨t.Q++[(Tx m t.Q i a,To t.Q i a)],none⟩
def Rc (m:Mly)(i:Nat)(t:F12):F12:=(List.range m.inp.toNat).foldl (Us m i) t
def MV (m:Mly):Nat→Nat→F12→F12
 |0,_,t=>t
 |f+1,i,t=>if t.res.isSome=true then t else if i<t.Q.length then MV m f (i+1) (Rc m i t) else t
def Vk (m:Mly)(l:List Int):Option (Option (List Int)):=(MV m 4097 0 ⟨[(l,[])],none⟩).res
def fdW (m:Mly)(l:List Int):Option (List Int):=(Vk m l).getD none
structure FQ (m:Mly)(n:Nat)(Q:List SS):Prop where
 st:∀ s∈Q,rI m s.1
 ln:∀ s∈Q,s.1.length=n
 wl:∀ i,i<Q.length→(Q.getD i ss0).2.length≤i
 le:Q.length≤4096
def FQ.at_ {m:Mly}{n:Nat}{Q:List SS}(h:FQ m n Q){i:Nat}(hi:i<Q.length):rI m (Q.getD i ss0).1∧(Q.getD i ss0).1.length=n∧(Q.getD i ss0).2.length≤i:=by
 have:Q.getD i ss0∈Q:=by simp[List.getD,hi]
 exact⟨h.st _ this,h.ln _ this,h.wl i hi⟩
def FQ.snoc {m:Mly}{n:Nat}{Q:List SS}(h:FQ m n Q){x w:List Int}(h1:rI m x)(h2:x.length=n)(h3:w.length≤Q.length)(h4:Q.length<4096):FQ m n (Q++[(x,w)]):=by
 refine⟨λs hs=>?_,λs hs=>?_,λi hi=>?_,by rw[aq];simp only[ax,aF];omega⟩
 ·rcases List.mem_append.1 hs with q|q
  ·exact h.st s q
  ·rw[List.mem_singleton] at q;rw[q];exact h1
 ·rcases List.mem_append.1 hs with q|q
  ·exact h.ln s q
  ·rw[List.mem_singleton] at q;rw[q];exact h2
 ·rw[aq] at hi
  simp only[ax,aF] at hi
  by_cases e:i<Q.length
  ·have e2:(Q++[(x,w)]).getD i ss0=Q.getD i ss0:=by simp[List.getD,List.getElem?_append_left e]
   rw[e2];exact h.wl i e
  ·have e3:i=Q.length:=by omega
   have e2:(Q++[(x,w)]).getD i ss0=(x,w):=by rw[e3];simp[List.getD]
   rw[e2];show w.length≤i;omega
def FQ.one {m:Mly}{l:List Int}(h:rI m l):FQ m l.length [(l,[])]:=by
 refine⟨λs hs=>?_,λs hs=>?_,λi hi=>?_,η⟩
 ·rw[List.mem_singleton] at hs;rw[hs];exact h
 ·rw[List.mem_singleton] at hs;rw[hs]
 ·have:i=0:=by simpa using hi
  subst this;exact Υ _
def ouL (m:Mly)(l:List Int)(a:Int):List Int:=l.map λs=>m.out s a
def pkL (l at_:List Int):List Int:=at_.map λx=>l.getD x.toNat 0
def ptL (m:Mly)(l:List Int)(a o:Int)(k:Nat):List Int:=((List.range k).filter fun(q:Nat)=>decide (m.out (l.getD q 0) a=o)).map fun(q:Nat)=>(q:Int)
def Vj (m:Mly)(ini cur:List Int)(a:Int)(i:Nat)(o:Int):List Int:=pkL ini (ptL m cur a o i)
def NI (m:Mly)(cur:List Int)(a:Int)(i:Nat)(o:Int):List Int:=xY m (pkL cur (ptL m cur a o i)) a
abbrev HC:=Int×(Int×Unit)
abbrev jC:=List Int×(Int×(List HC×Unit))
def Py (m:Mly)(w:List Int):Prop:=∀ x∈w,0≤x∧x<m.inp
structure FW (m:Mly)(t:F12):Prop where
 q:∀ s∈t.Q,Py m s.2
 r:∀ w,t.res=some (some w)→Py m w∧w≠[]
def nd0:jC:=([],(0,([],())))
def kd0:HC:=(0,(0,()))
def TI (m:Mly)(rec:Nat→List Int→List Int→Option Nat)(ini cur:List Int)(x:jC)(e:Option Nat)(i:Nat):Option Nat:=
 match e with
 |none=>none
 |some n=>if(x.2.2.1.getD i kd0).1=(tB (ouL m cur x.2.1)).getD i 0∧(x.2.2.1.getD i kd0).2.1=(n:Int) then
   rec n (Vj m ini cur x.2.1 cur.length ((tB (ouL m cur x.2.1)).getD i 0)) (NI m cur x.2.1 cur.length ((tB (ouL m cur x.2.1)).getD i 0)) else none
def rtF (m:Mly)(T:List jC):Nat→Nat→List Int→List Int→Option Nat
 |0,_,_,_=>none
 |f+1,p,ini,cur=>
  if p<T.length∧(T.getD p nd0).1=ini∧cur.Nodup then
   (if(T.getD p nd0).2.1= -1 then(if(T.getD p nd0).2.2.1.length=0 then some (p+1) else none) else
    if 0≤(T.getD p nd0).2.1∧(T.getD p nd0).2.1<m.inp∧(tB (ouL m cur (T.getD p nd0).2.1)).length=(T.getD p nd0).2.2.1.length then
     (List.range (T.getD p nd0).2.2.1.length).foldl (TI m (rtF m T f) ini cur (T.getD p nd0)) (some (p+1)) else none)
  else none
structure TR12 (T:List jC):Prop where
 len:T.length≤4096
def G0 {m:Mly}{cl:List Int}{s:Int}{c d:Nat}(h:II m cl s c=some d):c<d∧d<cl.length∧J4 m cl s c d=true:=by
 unfold II at h;have h1:=List.find?_some h;have h2:d<cl.length:=by simpa using List.mem_of_find?_eq_some h
 simp only[Bool.and_eq_true,decide_eq_true_eq] at h1;exact⟨h1.1,h2,h1.2⟩
def G3 {m:Mly}{cl:List Int}{p:Nat×Nat×Nat}(h:JB m cl=some p):(p.1<m.exR.length∧p.2.1<cl.length∧p.2.2<cl.length)∧p.2.1<p.2.2∧J4 m cl (m.exR.getD p.1 eX0).1 p.2.1 p.2.2=true:=by
 unfold JB at h;obtain⟨i,hi,he⟩:=List.exists_of_findSome?_eq_some h
 cases hc:Nc m cl (m.exR.getD i eX0).1 with
 |none=>rw[hc] at he;cases he
 |some q=>
  rw[hc] at he;simp only[Option.map_some,Λ] at he;subst he;unfold Nc at hc;obtain⟨c,hcm,hce⟩:=List.exists_of_findSome?_eq_some hc
  cases hd:II m cl (m.exR.getD i eX0).1 c with
  |none=>rw[hd] at hce;cases hce
  |some d=>
   rw[hd] at hce;simp only[Option.map_some,Λ] at hce;subst hce;obtain⟨h1,h2,h3⟩:=G0 hd;exact⟨⟨by simpa using hi,by simpa using hcm,h2⟩,h1,h3⟩
def Pj (m:Mly)(cl:List Int):Bool:=if yW m cl=0 then(JB m cl).isSome else false
def SYM (n:Int)(w:List Int):Prop:=∀ a,a∈w→0≤a∧a<n
theorem zw {a b:Mly}(ha:MOK a)(hb:MOK b)(hi:a.inp=b.inp){B:Nat}(hB:a.nx.length*b.nx.length≤B):∀ (f i:Nat) (l:List S3),WFS a b l→∀ w,srS a b f i l=some w→w.length≤B+1
 |0,_,_,_,w,h=>by cases h
 |f+1,i,l,hl,w,h=>by
  simp only[srS] at h;split at h
  ·rename_i hil
   have h1:=hl.wl hil;have h2:=hl.le;have h3:=ha.i1;split at h
   ·simp only[Λ] at h;subst h
    rw[aq];simp only[ax,aF];omega
   ·exact zw ha hb hi hB f (i+1) _ (hl.row ha hb hi hil a.inp.toNat ω) w h
  ·cases h
structure SHW (m:Mly)(cl:List Int)(u v:List Int):Prop where
 su:SYM m.inp u
 sv:SYM m.inp v
 lu:u.length≤200
 lv:v.length=u.length
 pos:0<u.length
 ne:(m.go m.st u).2≠(m.go m.st v).2
 im:u.map (λa=>cl.getD a.toNat 0)=v.map λa=>cl.getD a.toNat 0
def GM {n i:Nat}:(List.replicate n (0:Int)).getD i 0=0:=by
 by_cases h:i<n
 ·simp[List.getD,h]
 ·simp[List.getD,Nat.le_of_not_lt h]
def iQ (m:Mly):List Int:=if aK m=0 then(nmS (lS m) m.inp.toNat).1 else []
def Gj (m:Mly):Int:=if aK m=0 then((nmS (lS m) m.inp.toNat).2.length:Int) else 0
def Rk {T:Nat→Nat→Bool}{n c d:Nat}(hT:EQT T n)(hc:c<n)(hd:d<n):(nmS T n).1.getD c 0=(nmS T n).1.getD d 0↔T c d=true:=by
 have hp:=nmp hT n (Υ _);obtain⟨r1,r2,r3⟩:=lY T n;obtain⟨c1,c2,c3⟩:=hp.at_ c hc;obtain⟨d1,d2,d3⟩:=hp.at_ d hd;have hmc:=r3 _ (cP (w:=(nmS T n).2) (i:=((nmS T n).1.getD c 0).toNat) ω);have hmd:=r3 _ (cP (w:=(nmS T n).2) (i:=((nmS T n).1.getD d 0).toNat) ω)
 constructor
 ·intro e
  rw[← e] at d3;exact hT.tr c _ d hc ω hd (hT.sy _ c ω hc c3) d3
 ·intro h
  have h1:=hT.tr _ c d ω hc hd c3 h;have h2:=hT.tr _ d _ ω hd ω h1 (hT.sy _ d ω hd d3);rcases Nat.lt_trichotomy ((nmS T n).1.getD c 0).toNat ((nmS T n).1.getD d 0).toNat with hh|hh|hh
  ·have:=hp.ap _ _ hh ω
   rw[h2] at this;cases this
  ·omega
  ·have h3:=hT.sy _ _ ω ω h2
   have:=hp.ap _ _ hh ω;rw[h3] at this;cases this
structure RUN (m:Mly):Prop where
 len:(iQ m).length=m.inp.toNat
 ce:nD (iQ m)=0
 ck:Hv (iQ m)=Gj m
 eq:∀ c d:Nat,c<m.inp.toNat→d<m.inp.toNat→((iQ m).getD c 0=(iQ m).getD d 0↔lS m c d=true)
 ch:yW m (iQ m)=0
 no:Pj m (iQ m)=false
def Kj {m:Mly}{cl:List Int}(hk:COK m cl)(h:∀ c d:Nat,c<m.inp.toNat→d<m.inp.toNat→cl.getD c 0=cl.getD d 0→lS m c d=true):Pj m cl=false:=by
 have hlen:=hk.len;unfold Pj;split
 ·cases hf:JB m cl with
  |none=>rfl
  |some p=>
   exfalso;obtain⟨⟨p1,p2,p3⟩,p4,p5⟩:=G3 hf;unfold J4 at p5;simp only[Bool.and_eq_true,Bool.not_eq_true',decide_eq_true_eq] at p5;have h1:=iV.1 (h p.2.1 p.2.2 ω ω p5.1) p.1 (by rw[jV];exact p1);rw[pW p1,p5.2] at h1
   cases h1
 ·rfl
def TA {m:Mly}(hm:MOK m):RUN m:=by
 have hi1:=hm.i1;have hi2:=hm.i2;have hv:=cg hm;have eL:iQ m=(nmS (lS m) m.inp.toNat).1:=by unfold iQ;rw[if_pos hv]
 have eN:Gj m=((nmS (lS m) m.inp.toNat).2.length:Int):=by unfold Gj;rw[if_pos hv]
 have hc:=QY (lS m) (n:=m.inp.toNat) ω ω;have hr:=lY (lS m) m.inp.toNat;have hq:∀ c d:Nat,c<m.inp.toNat→d<m.inp.toNat→((iQ m).getD c 0=(iQ m).getD d 0↔lS m c d=true):=λc d h1 h2=>by rw[eL];exact Rk (KY m _) h1 h2
 have hl:(iQ m).length=m.inp.toNat:=by rw[eL];exact hr.1
 have hce:nD (iQ m)=0:=by rw[eL];exact hc.1
 have hch:yW m (iQ m)=0:=by
  unfold yW;rw[if_neg (by simp[hv]),if_neg (by simp[hce]),if_pos ω]
 exact⟨hl,hce,by rw[eL,eN];exact hc.2,hq,hch,Kj (SN hch) λc d h1 h2 e=>(hq c d h1 h2).1 e⟩
theorem DF {cl:List Int}(hb:∀ q,q<cl.length→iS cl q=false):∀ k,k≤cl.length→∀ v,0≤v→v<cN cl k→∃ q,q<k∧cl.getD q 0=v
 |0,_,v,h0,h1=>by simp only[cN] at h1;omega
 |k+1,hk,v,h0,h1=>by
  have h2:=hb k ω;simp only[iS,Bool.or_eq_false_iff,decide_eq_false_iff_not] at h2;simp only[cN] at h1
  by_cases e:v<cN cl k
  ·obtain⟨q,q1,q2⟩:=DF hb k ω v h0 e
   exact⟨q,ω,q2⟩
  ·exact⟨k,ω,ω⟩
theorem Mr (cl:List Int):∀ k q,q<k→cl.getD q 0<cN cl k
 |0,q,h=>by omega
 |k+1,q,h=>by
  simp only[cN]
  by_cases e:q=k
  ·rw[e];omega
  ·have:=Mr cl k q ω;omega
theorem BR (cl:List Int):∀ k,0≤cN cl k
 |0=>Int.le_refl _
 |k+1=>by have:=BR cl k;simp only[cN];omega
structure STD (m:Mly)(C:List Int)(j:Nat):Prop where
 len:C.length=m.inp.toNat
 ce:nD C=0
 co:∀ c d:Nat,c<m.inp.toNat→d<m.inp.toNat→lS m c d=true→C.getD c 0=C.getD d 0
 ct:(j:Int)+1≤Hv C
theorem wt (m:Mly)(cl:List Int):∀ k,k≤m.nx.length→cN (m.nextL cl) k=((ef (m.sig cl) k).length:Int)∧∀ q,q<k→iS (m.nextL cl) q=false
 |0,_=>⟨by simp[cN,ef],λq h=>by omega⟩
 |k+1,h=>by
  obtain⟨i1,i2⟩:=wt m cl k ω;have hv:=oN (cl:=cl) (s:=k) (by omega:k<m.nx.length)
  by_cases hs:m.sig cl k∈ef (m.sig cl) k
  ·have h1:=rX (cl:=cl) (by omega:k<m.nx.length) hs
   have h2:=kK hs;rw[h1] at hv;refine⟨?_,λq hq=>?_⟩
   ·rw[eW,gR hs];simp only[cN];omega
   ·by_cases e:q=k
    ·subst e;exact qK ω ω
    ·exact i2 q ω
  ·have h1:=rO (cl:=cl) (by omega:k<m.nx.length) hs
   rw[h1] at hv;refine⟨?_,λq hq=>?_⟩
   ·rw[eW,gd hs,aq];simp only[cN,ax,aF];omega
   ·by_cases e:q=k
    ·subst e;exact qK ω ω
    ·exact i2 q ω
def jt {m:Mly}(hm:MOK m):∀ q,q<m.eqc.length→iS m.eqc q=false:=by
 obtain⟨j,h1,h2,h3⟩:=sV hm;rw[h1,vN]
 cases j with
 |zero=>exact λq hq=>qK (by show 0≤(List.replicate _ (0:Int)).getD q 0;rw[GM];omega) (by show(List.replicate _ (0:Int)).getD q 0≤_;rw[GM];exact BR _ _)
 |succ i=>exact(wt m (m.cls i) m.nx.length (Υ _)).2
def eQ (c:List Int)(k:Nat):List Nat:=(List.range k).filter λs=>decide (c.getD s 0=cN c s)
def sk {c:List Int}{k:Nat}(h:c.getD k 0=cN c k):eQ c (k+1)=eQ c k++[k]:=by
 unfold eQ;rw[List.range_succ,List.filter_append];simp only[List.filter_cons,List.filter_nil,h,decide_true,if_true]
def sC {c:List Int}{k:Nat}(h:¬c.getD k 0=cN c k):eQ c (k+1)=eQ c k:=by
 unfold eQ;rw[List.range_succ,List.filter_append];simp only[List.filter_cons,List.filter_nil,decide_eq_false h,Bool.false_eq_true,if_false,List.append_nil]
structure REP (c:List Int)(k:Nat):Prop where
 len:((eQ c k).length:Int)=cN c k
 at_:∀ r,r<(eQ c k).length→(eQ c k).getD r 0<k∧c.getD ((eQ c k).getD r 0) 0=r
def CQ {xs ys:List Nat}{i:Nat}(h:i<xs.length):(xs++ys).getD i 0=xs.getD i 0:=by simp[List.getD,List.getElem?_append_left h]
theorem Ar {c:List Int}(hb:∀ q,q<c.length→iS c q=false):∀ k,k≤c.length→REP c k
 |0,_=>⟨rfl,λr h=>by simp[eQ] at h⟩
 |k+1,h=>by
  have ih:=Ar hb k ω;have h1:=hb k ω;simp only[iS,Bool.or_eq_false_iff,decide_eq_false_iff_not] at h1;have hl:=ih.len
  by_cases e:c.getD k 0=cN c k
  ·rw[show REP c (k+1)=REP c (k+1) from rfl]
   refine⟨?_,λr hr=>?_⟩
   ·rw[sk e,aq];simp only[ax,aF,cN];omega
   ·rw[sk e] at hr⊢
    rw[aq] at hr;simp only[ax,aF] at hr
    by_cases e2:r=(eQ c k).length
    ·have:(eQ c k++[k]).getD r 0=k:=by subst e2;simp[List.getD]
     rw[this];exact⟨ω,ω⟩
    ·rw[CQ ω]
     have:=ih.at_ r ω;exact⟨ω,this.2⟩
  ·refine⟨?_,λr hr=>?_⟩
   ·rw[sC e];simp only[cN];omega
   ·rw[sC e] at hr⊢
    have:=ih.at_ r hr;exact⟨ω,this.2⟩
def Mly.f (t:Mly)(x:Int):Int:=t.eqc.getD x.toNat 0
def Mly.reps (t:Mly):List Nat:=eQ t.eqc t.nx.length
def Mly.qm (t:Mly):Mly:=⟨t.inp,0,t.reps.map (λs=>(t.nx.getD s []).map t.f),t.reps.map λs=>t.ot.getD s []⟩
def jq {t:Mly}(ht:MOK t):REP t.eqc t.nx.length:=by
 have hl:=(gG ht).len;have:=Ar (jt ht) t.nx.length ω;exact this
def sR (t:Mly):t.qm.nx.length=t.reps.length:=by simp[Mly.qm]
def G1 {t:Mly}{r:Nat}(h:r<t.reps.length):t.qm.nx.getD r []=(t.nx.getD (t.reps.getD r 0) []).map t.f:=by
 show(t.reps.map _).getD r []=_;rw[fZ _ 0 _ h]
def EG {t:Mly}{r:Nat}(h:r<t.reps.length):t.qm.ot.getD r []=t.ot.getD (t.reps.getD r 0) []:=by
 show(t.reps.map _).getD r []=_;rw[fZ _ 0 _ h]
def sQ {t:Mly}(ht:MOK t){s:Int}(h0:0≤s)(h1:s<t.nx.length):0≤t.f s∧t.f s<t.reps.length:=by
 have hl:=(jq ht).len;have:=Mr t.eqc t.nx.length s.toNat ω;have h2:=(gG ht).rng s.toNat ω;unfold Mly.f Mly.reps;omega
def V8 {t:Mly}(ht:MOK t){s:Int}(h0:0≤s)(h1:s<t.nx.length):t.reps.getD (t.f s).toNat 0<t.nx.length∧t.f (t.reps.getD (t.f s).toNat 0:Nat)=t.f s:=by
 have hf:=sQ ht h0 h1;have:=(jq ht).at_ (t.f s).toNat (by have:=hf.2;unfold Mly.reps at this;omega);refine⟨this.1,?_⟩;show t.eqc.getD ((t.reps.getD (t.f s).toNat 0:Nat):Int).toNat 0=_;rw[az];have h2:=this.2;unfold Mly.reps;rw[h2];omega
def LT {t:Mly}(ht:MOK t):MOK t.qm:=by
 have hq:=sR t;have hr:=jq ht;have hn1:=ht.n1;have hn2:=ht.n2;have h0:=sQ ht (s:=0) ω ω;have hle:t.reps.length≤t.nx.length:=by
  unfold Mly.reps eQ;exact Nat.le_trans (List.length_filter_le _ _) η
 have hol:t.qm.ot.length=t.reps.length:=by simp[Mly.qm]
 have hat:∀ r,r<t.reps.length→t.reps.getD r 0<t.nx.length:=λr h=>(hr.at_ r h).1;refine⟨ht.i1,ht.i2,ω,ω,Int.le_refl 0,by show(0:Int)<_;omega,ω,λs hs=>?_,λs hs=>?_,λs a hs ha=>?_,λs a hs ha=>?_⟩
 ·rw[G1 ω,aE]
  exact ht.rl _ (hat s ω)
 ·rw[EG ω]
  exact ht.ql _ (hat s ω)
 ·have ha':(a:Int)<t.inp:=ha
  have h1:=ht.rl _ (hat s ω);rw[G1 ω,fZ t.f 0 0 ω];have h2:=ht.nr _ a (hat s ω) ha';have:=sQ ht h2.1 h2.2;omega
 ·rw[EG ω]
  exact ht.or _ a (hat s ω) ha
def Hi {t:Mly}(ht:MOK t){s a:Int}(h0:0≤s)(h1:s<t.nx.length)(ha:0≤a∧a<t.inp):t.qm.out (t.f s) a=t.out s a∧t.qm.nxt (t.f s) a=t.f (t.nxt s a):=by
 have hf:=sQ ht h0 h1;obtain⟨r1,r2⟩:=V8 ht h0 h1;have e:t.eqc.getD (t.reps.getD (t.f s).toNat 0) 0=t.eqc.getD s.toNat 0:=by
  have:=r2;unfold Mly.f at this;rw[az] at this;exact this
 have hst:=(gG ht).step _ s.toNat r1 ω e a.toNat ω;have hrl:=ht.rl _ r1
 constructor
 ·show(t.qm.ot.getD (t.f s).toNat []).getD a.toNat 0=_
  rw[EG ω,hst.1];rfl
 ·show(t.qm.nx.getD (t.f s).toNat []).getD a.toNat 0=_
  rw[G1 ω,fZ t.f 0 0 ω];exact hst.2
theorem J8 {t:Mly}(ht:MOK t):∀ (w:List Int) (s:Int),0≤s→s<t.nx.length→(∀ i:Nat,i<w.length→0≤w.getD i 0∧w.getD i 0<t.inp)→(t.qm.go (t.f s) w).2=(t.go s w).2
 |[],s,_,_,_=>rfl
 |a::w,s,h0,h1,hw=>by
  obtain⟨ha,hw2⟩:=mj hw;obtain⟨e1,e2⟩:=Hi ht h0 h1 ha;rw[fm,fm,e1,e2];have hn:=ht.nr s.toNat a.toNat ω ω;have:=J8 ht w (t.nxt s a) hn.1 hn.2 hw2;rw[this]
def Vc {t:Mly}(ht:MOK t):∀ i j:Int,0≤i→i<t.qm.nx.length→0≤j→j<t.qm.nx.length→EQV t.qm i j→i=j:=by
 intro i j i0 i1 j0 j1 h;have hq:=sR t;have ri:=(jq ht).at_ i.toNat (by unfold Mly.reps at hq;omega);have rj:=(jq ht).at_ j.toNat (by unfold Mly.reps at hq;omega);have fi:t.f (((eQ t.eqc t.nx.length).getD i.toNat 0:Nat):Int)=i:=by unfold Mly.f;rw[az,ri.2];omega
 have fj:t.f (((eQ t.eqc t.nx.length).getD j.toNat 0:Nat):Int)=j:=by unfold Mly.f;rw[az,rj.2];omega
 have hv:EQV t (((eQ t.eqc t.nx.length).getD i.toNat 0:Nat):Int) (((eQ t.eqc t.nx.length).getD j.toNat 0:Nat):Int):=λw hw=>by
  have g1:=J8 ht w (((eQ t.eqc t.nx.length).getD i.toNat 0:Nat):Int) (Int.natCast_nonneg _) (by have:=ri.1;omega) hw;have g2:=J8 ht w (((eQ t.eqc t.nx.length).getD j.toNat 0:Nat):Int) (Int.natCast_nonneg _) (by have:=rj.1;omega) hw;rw[fi] at g1;rw[fj] at g2;rw[← g1,← g2];exact h w hw
 have:=(x5 ht (Int.natCast_nonneg _) (by have:=ri.1;omega) (Int.natCast_nonneg _) (by have:=rj.1;omega)).2 hv;rw[← fi,← fj];exact this
abbrev STP:=PP→Nat→PP
abbrev W3:=PP×List Int
def w30:W3:=(d0,[])
def dIn (l:List W3)(q:PP):Bool:=l.any λf=>decide (f.1=q)
def dSt (A:STP)(e:W3)(l:List W3)(x:Nat):List W3:=if dIn l (A e.1 x)=true then l else l++[(A e.1 x,e.2++[(x:Int)])]
def mT (A:STP)(e:W3)(l:List W3)(x:Nat):List W3:=(List.range x).foldl (dSt A e) l
def CF {l:List W3}{q:PP}:dIn l q=true↔q∈l.map Prod.fst:=by
 unfold dIn;rw[List.any_eq_true,List.mem_map]
 constructor
 ·rintro⟨e,he,h⟩;exact⟨e,he,by simpa using h⟩
 ·rintro⟨e,he,h⟩;exact⟨e,he,by simpa using h⟩
def AI {A:STP}{e:W3}{l:List W3}{x:Nat}(h:A e.1 x∈l.map Prod.fst):dSt A e l x=l:=if_pos (CF.2 h)
def vS {A:STP}{e:W3}{l:List W3}{x:Nat}(h:A e.1 x∉l.map Prod.fst):dSt A e l x=l++[(A e.1 x,e.2++[(x:Int)])]:=if_neg λk=>h (CF.1 k)
def mf (A:STP)(e:W3)(l:List W3)(x:Nat):mT A e l (x+1)=dSt A e (mT A e l x) x:=by
 unfold mT;rw[List.range_succ,List.foldl_append];rfl
def Oq (A:STP)(e:W3)(l:List W3)(x:Nat):∃ k,dSt A e l x=l++k:=by
 unfold dSt;split
 ·exact⟨[],η⟩
 ·exact⟨_,rfl⟩
theorem vD (A:STP)(e:W3)(l:List W3)(x:Nat):∀ d,∃ k,mT A e l (x+d)=mT A e l x++k
 |0=>⟨[],η⟩
 |d+1=>by
  obtain⟨k,h⟩:=vD A e l x d;obtain⟨k',h'⟩:=Oq A e (mT A e l (x+d)) (x+d);exact⟨k++k',by rw[← Nat.add_assoc,mf,h',h,List.append_assoc]⟩
def Ly (A:STP)(e:W3)(l:List W3)(x:Nat):∃ k,mT A e l x=l++k:=by
 obtain⟨k,h⟩:=vD A e l 0 x;rw[Nat.zero_add] at h;exact⟨k,h⟩
def inR (n1 n2:Nat)(q:PP):Prop:=(0≤q.1∧q.1<n1)∧0≤q.2∧q.2<n2
structure DW (n1 n2:Nat)(l:List W3):Prop where
 nd:(l.map Prod.fst).Nodup
 rg:∀ e,e∈l→inR n1 n2 e.1
 wl:∀ e,e∈l→e.2.length<l.length
def Bh {l:List W3}{i:Nat}(h:i<l.length):l.getD i w30∈l:=by simp[List.getD,h]
def DW.le {n1 n2:Nat}{l:List W3}(h:DW n1 n2 l):l.length≤n1*n2:=by
 have hnd:((l.map Prod.fst).map λq:PP=>q.1*(n2:Int)+q.2).Nodup:=by
  rw[List.nodup_iff_pairwise_ne,List.pairwise_map];refine List.Pairwise.imp_of_mem (λ{a b} ha hb hab=>?_) (List.nodup_iff_pairwise_ne.1 h.nd);intro e;obtain⟨ea,hea,rfl⟩:=List.mem_map.1 ha;obtain⟨eb,heb,rfl⟩:=List.mem_map.1 hb;have:=zZ (h.rg ea hea).2 (h.rg eb heb).2 e;exact hab (Prod.ext this.1 this.2)
 have:=gm (n1*n2) _ hnd (λx hx=>by
  obtain⟨q,hq,rfl⟩:=List.mem_map.1 hx;obtain⟨e,he,rfl⟩:=List.mem_map.1 hq;have hr:=h.rg e he;have:=CZ hr.1 hr.2;rw[Int.natCast_mul];exact this)
 simpa using this
def DW.step {n1 n2 n:Nat}{A:STP}(hA:∀ q,inR n1 n2 q→∀ x,x<n→inR n1 n2 (A q x)){l:List W3}(h:DW n1 n2 l){e:W3}(he:e∈l){x:Nat}(hx:x<n):DW n1 n2 (dSt A e l x):=by
 by_cases hin:A e.1 x∈l.map Prod.fst
 ·rw[AI hin];exact h
 ·rw[vS hin]
  refine⟨?_,λf hf=>?_,λf hf=>?_⟩
  ·rw[List.map_append,aJ,aV,List.nodup_append]
   refine⟨h.nd,η,λa ha b hb=>?_⟩;simp at hb;subst hb;intro hab;subst hab;exact hin ha
  ·rcases List.mem_append.1 hf with hf|hf
   ·exact h.rg f hf
   ·simp at hf;subst hf;exact hA _ (h.rg e he) x hx
  ·rw[aq,List.length_singleton]
   rcases List.mem_append.1 hf with hf|hf
   ·have:=h.wl f hf;omega
   ·simp at hf;subst hf
    have:=h.wl e he;simp only[aq,List.length_singleton];omega
theorem DW.row {n1 n2 n:Nat}{A:STP}(hA:∀ q,inR n1 n2 q→∀ x,x<n→inR n1 n2 (A q x)){l:List W3}(h:DW n1 n2 l){i:Nat}(hi:i<l.length):∀ x,x≤n→DW n1 n2 (mT A (l.getD i w30) l x)
 |0,_=>by simpa [mT] using h
 |x+1,hx=>by
  rw[mf];refine(h.row hA hi x ω).step hA ?_ ω;obtain⟨k,e⟩:=Ly A (l.getD i w30) l x;rw[e];exact List.mem_append.2 (.inl (Bh hi))
def hF (h:PP→PP)(l:List W3):List PP:=l.map λe=>h e.1
structure HOM (A B:STP)(n:Nat)(I:PP→Prop)(h:PP→PP):Prop where
 cl:∀ p,I p→∀ x,x<n→I (A p x)
 eq:∀ p,I p→∀ x,x<n→B (h p) x=h (A p x)
def UK {xs ys:List Int}(h:xs.length=ys.length)(h2:∀ i,i<xs.length→xs.getD i 0=ys.getD i 0):xs=ys:=by
 refine List.ext_getElem h λi h1 h3=>?_;have:=h2 i h1
 simpa [List.getD,h1,h3] using this
def dd (f:Int→Int)(l:List Int):List Int:=(l.map f).foldl cm []
def Hp (f:Int→Int)(l:List Int)(x:Int):dd f (l++[x])=cm (dd f l) (f x):=by
 unfold dd;rw[List.map_append,List.foldl_append];rfl
def Jo {f:Int→Int}{l:List Int}{y:Int}:y∈dd f l↔∃ x,x∈l∧f x=y:=by
 unfold dd;rw[kx,List.mem_map];simp
theorem DG (f:Int→Int):∀ (r l:List Int),(r.map f).foldl cm (dd f l)=dd f (r.foldl cm l)
 |[],_=>rfl
 |x::r,l=>by
  rw[aJ,List.foldl_cons,List.foldl_cons,← DG f r (cm l x)]
  congr 1
  by_cases h:x∈l
  ·rw[gB h,gB (Jo.2 ⟨x,h,rfl⟩)]
  ·rw[fd h,Hp]
theorem D4:∀ (r l:List Int),(∀ x,x∈r→x∈l)→r.foldl cm l=l
 |[],_,_=>rfl
 |x::r,l,h=>by
  rw[List.foldl_cons,gB (h x η)];exact D4 r l λy hy=>h y (by simp[hy])
theorem qc (c:List Int){a:Nat}:∀ {b:Nat},a≤b→cN c a≤cN c b
 |0,h=>by
  have:a=0:=ω;subst this;exact Int.le_refl _
 |b+1,h=>by
  by_cases e:a=b+1
  ·subst e;exact Int.le_refl _
  ·have:=qc c (a:=a) (b:=b) ω
   simp only[cN];omega
theorem Bp {t:Mly}(ht:MOK t):∀ k,k≤t.nx.length→dd t.f (rgI k)=rgI (cN t.eqc k).toNat
 |0,_=>rfl
 |k+1,h=>by
  have hl:=(gG ht).len;have h1:=jt ht k ω;simp only[iS,Bool.or_eq_false_iff,decide_eq_false_iff_not] at h1;have hn:=BR t.eqc k;have hf:t.f (k:Int)=t.eqc.getD k 0:=by unfold Mly.f;rw[az]
  rw[yY,Hp,Bp ht k ω,hf]
  by_cases e:t.eqc.getD k 0=cN t.eqc k
  ·rw[fd (λhm=>by have:=kt.1 hm;omega),show(cN t.eqc (k+1)).toNat=(cN t.eqc k).toNat+1 by simp only[cN];omega,yY,e,Int.toNat_of_nonneg hn]
  ·rw[gB (kt.2 ⟨ω,ω⟩),show(cN t.eqc (k+1)).toNat=(cN t.eqc k).toNat by simp only[cN];omega]
def w5 {t:Mly}(ht:MOK t){s:Int}(h0:0≤s)(h1:s<t.nx.length):t.qm.row (t.f s)=(t.row s).map t.f:=by
 have hf:=sQ ht h0 h1;have hq:=sR t;have hi1:=ht.i1;have r1:((t.qm.row (t.f s)).length:Int)=t.inp:=(LT ht).rl (t.f s).toNat ω;have r2:((t.row s).length:Int)=t.inp:=ht.rl s.toNat ω;refine UK (by rw[aE];omega) λa ha=>?_;rw[fZ t.f 0 0 ω];have:=(Hi ht h0 h1 (a:=(a:Int)) ⟨ω,ω⟩).2;exact this
theorem LM {t:Mly}(ht:MOK t)(hr:t.reach=rgI t.nx.length):∀ (g i:Nat) (L:List Int),t.nx.length<g+i→t.rf g i L=t.reach→L=rgI L.length→L.length≤t.nx.length→i≤L.length→
 (∀ j:Nat,j<i→∀ x,x∈t.row j→x∈L)→∀ F,t.reps.length<F+(cN t.eqc i).toNat→t.qm.rf F (cN t.eqc i).toNat (dd t.f L)=dd t.f t.reach
 |0,i,L,hg,_,_,hL,hi,_,F,_=>by omega
 |g+1,i,L,hg,hrf,hp,hL,hi,hcl,F,hF=>by
  have hlen:=(gG ht).len;have hK:=(jq ht).len;have hnn:=BR t.eqc i;have hdd:dd t.f L=rgI (cN t.eqc L.length).toNat:=by
   have:=Bp ht L.length hL;rwa[← hp] at this
  by_cases hil:i<L.length
  ·have hLi:L.getD i 0=(i:Int):=by rw[hp];exact oB hil
   rw[jj t g i L hil,hLi] at hrf;have hmi:(i:Int)∈L:=by rw[← hLi];exact cP hil
   have h1:=jt ht i ω;simp only[iS,Bool.or_eq_false_iff,decide_eq_false_iff_not] at h1;have hm1:=qc t.eqc (a:=i+1) (b:=L.length) ω;have hm2:=qc t.eqc (a:=i) (b:=t.nx.length) ω;have hpre:∃ k,(t.row i).foldl cm L++k=rgI t.nx.length:=by
    obtain⟨k,e⟩:=oo t g (i+1) ((t.row i).foldl cm L);exact⟨k,by rw[← e,hrf,hr]⟩
   obtain⟨k,hk⟩:=hpre;have hp2:=wO hk;have hL2:((t.row i).foldl cm L).length≤t.nx.length:=by
    have:=congrArg List.length hk;rw[aq,fH] at this;omega
   have hge:=qx (t.row i) L;have hcl2:∀ j:Nat,j<i+1→∀ x,x∈t.row j→x∈(t.row i).foldl cm L:=λj hj x hx=>by
    by_cases e:j=i
    ·subst e;exact kx.2 (.inr hx)
    ·exact kx.2 (.inl (hcl j ω x hx))
   have hfi:t.f (i:Int)=t.eqc.getD i 0:=by unfold Mly.f;rw[az]
   have hfold:=DG t.f (t.row i) L
   by_cases e:t.eqc.getD i 0=cN t.eqc i
   ·have ec:(cN t.eqc (i+1)).toNat=(cN t.eqc i).toNat+1:=by simp only[cN];omega
    have hKb:(cN t.eqc i).toNat<t.reps.length:=by
     have:=qc t.eqc (a:=i+1) (b:=t.nx.length) ω;unfold Mly.reps;omega
    obtain⟨F2,rfl⟩:∃ F2,F=F2+1:=⟨F-1,ω⟩
    have hlt:(cN t.eqc i).toNat<(dd t.f L).length:=by rw[hdd,fH];omega
    rw[jj t.qm F2 _ _ hlt];have hat:(dd t.f L).getD (cN t.eqc i).toNat 0=t.f (i:Int):=by
     rw[hdd,oB (by rw[hdd,fH] at hlt;exact hlt),hfi];omega
    rw[hat,w5 ht ω ω,hfold,← ec];exact LM ht hr g (i+1) _ ω hrf hp2 hL2 ω hcl2 F2 ω
   ·have ec:(cN t.eqc (i+1)).toNat=(cN t.eqc i).toNat:=by simp only[cN];omega
    obtain⟨q,q1,q2⟩:=DF (jt ht) i ω (t.eqc.getD i 0) ω ω;have hfq:t.f (q:Int)=t.f (i:Int):=by rw[hfi,← q2];unfold Mly.f;rw[az]
    have hrow:(t.row i).map t.f=(t.row q).map t.f:=by
     rw[← w5 ht ω ω,← w5 ht ω ω,hfq]
    have hin:((t.row i).map t.f).foldl cm (dd t.f L)=dd t.f L:=D4 _ _ λy hy=>by
     rw[hrow,List.mem_map] at hy;obtain⟨x,hx,rfl⟩:=hy;exact Jo.2 ⟨x,hcl q q1 x hx,rfl⟩
    rw[hfold] at hin;rw[← hin,← ec];exact LM ht hr g (i+1) _ ω hrf hp2 hL2 ω hcl2 F ω
  ·have hie:i=L.length:=by omega
   rw[gZ t _ _ _ ω] at hrf;rw[gZ t.qm _ _ _ (by rw[hdd,fH,hie];exact Υ _),← hrf]
def U7 {t:Mly}(ht:MOK t)(hs:t.st=0)(hr:t.reach=rgI t.nx.length):CAN t.qm:=by
 have hlen:=(gG ht).len;have hn1:=ht.n1;have hK:=(jq ht).len;refine⟨LT ht,rfl,?_,Vc ht⟩;have h0:=jt ht 0 ω;simp only[iS,Bool.or_eq_false_iff,decide_eq_false_iff_not] at h0;have hz0:cN t.eqc 0=0:=rfl;have hf0:t.f 0=0:=by unfold Mly.f;show t.eqc.getD 0 0=0;omega
 have hd0:dd t.f [0]=[0]:=by show cm [] (t.f 0)=_;rw[hf0];rfl
 have hrf:t.rf (t.nx.length+1) 0 [0]=t.reach:=by rw[eU (cg ht),hs]
 have:=LM ht hr (t.nx.length+1) 0 [0] ω hrf rfl (by simpa using hn1) η (λj hj=>by omega) (t.reps.length+1) (by simp only[cN];omega);rw[hd0] at this;rw[eU (cg (LT ht)),sR];show t.qm.rf (t.reps.length+1) 0 [0]=_;rw[show(cN t.eqc 0).toNat=0 from rfl] at this;rw[this,hr,Bp ht _ (Υ _)]
 congr 1
 unfold Mly.reps;omega
def Mly.minm (m:Mly):Mly:=m.T.qm
def vV {m:Mly}(hm:MOK m):CAN m.minm:=U7 (yS hm) rfl (by rw[Q8 hm,vL];rfl)
def pY {m:Mly}(hm:MOK m)(w:List Int)(hw:∀ i:Nat,i<w.length→0≤w.getD i 0∧w.getD i 0<m.inp):(m.minm.go 0 w).2=(m.go m.st w).2:=by
 have ht:=yS hm;have hn:=ht.n1;have hlen:=(gG ht).len;have h0:=jt ht 0 ω;simp only[iS,Bool.or_eq_false_iff,decide_eq_false_iff_not] at h0;have hz0:cN m.T.eqc 0=0:=rfl;have hf0:m.T.f 0=0:=by unfold Mly.f;show m.T.eqc.getD 0 0=0;omega
 have h1:=J8 ht w 0 ω ω hw;rw[hf0] at h1;obtain⟨k,hk⟩:=oa hm;have h2:=(CK hm (s:=m.st) (by rw[hk];simp) w hw).2.2;rw[Mx hm] at h2;exact h1.trans h2
def Rz {a b:Mly}(ha:MOK a)(hb:MOK b)(hi:a.inp=b.inp):EQ2 a b a.st b.st↔EQ2 a.minm b.minm 0 0:=by
 constructor
 ·intro h w hw
  rw[pY ha w hw,pY hb w (by rw[← hi];exact hw)];exact h w hw
 ·intro h w hw
  rw[← pY ha w hw,← pY hb w (by rw[← hi];exact hw)];exact h w hw
def Lo {a b:Mly}(ha:MOK a)(hb:MOK b)(hi:a.inp=b.inp):EQ2 a b a.st b.st↔a.minm=b.minm:=by
 rw[Rz ha hb hi]
 constructor
 ·intro h
  obtain⟨e1,e2⟩:=QK (vV ha) (vV hb) hi h;show(⟨a.inp,0,a.minm.nx,a.minm.ot⟩:Mly)=⟨b.inp,0,b.minm.nx,b.minm.ot⟩;rw[hi,e1,e2]
 ·intro h w _
  rw[h]
def Mly.qN (t:Mly)(k:Nat):List (List Int):=(eQ t.eqc k).map λs=>(t.nx.getD s []).map t.f
def Mly.qO (t:Mly)(k:Nat):List (List Int):=(eQ t.eqc k).map λs=>t.ot.getD s []
def Sr (t:Mly)(k:Nat):(t.qN k).length=(eQ t.eqc k).length:=by simp[Mly.qN]
def S7 (t:Mly)(k:Nat):(t.qO k).length=(eQ t.eqc k).length:=by simp[Mly.qO]
def uD {t:Mly}{k:Nat}(h:t.eqc.getD k 0=cN t.eqc k):t.qN (k+1)=t.qN k++[(t.nx.getD k []).map t.f]∧t.qO (k+1)=t.qO k++[t.ot.getD k []]:=by
 unfold Mly.qN Mly.qO;rw[sk h,List.map_append,List.map_append];exact⟨rfl,rfl⟩
def uO {t:Mly}{k:Nat}(h:¬t.eqc.getD k 0=cN t.eqc k):t.qN (k+1)=t.qN k∧t.qO (k+1)=t.qO k:=by
 unfold Mly.qN Mly.qO;rw[sC h];exact⟨rfl,rfl⟩
def Mly.mres (m:Mly):Mly:=if aK m=0 then m.minm else⟨0,0,[],[]⟩
def sY {m:Mly}(h:¬aK m=0):m.mres=⟨0,0,[],[]⟩:=if_neg h
def D3 {m:Mly}(h:aK m=0):m.mres=m.trim.qm:=by unfold Mly.mres;rw[if_pos h,H5 h];rfl
def jE (a b:Mly):Int:=if aK a=0 then if aK b=0 then if a.inp=b.inp then 0 else 15 else aK b else aK a
def NX {a b:Mly}(h:jE a b=0):MOK a∧MOK b∧a.inp=b.inp:=by
 unfold jE at h;split at h
 ·rename_i h1
  split at h
  ·rename_i h2
   split at h
   ·rename_i h3;exact⟨fa h1,fa h2,h3⟩
   ·omega
  ·contradiction
 ·contradiction
def chm (a b:Mly)(k:Nat):Mly:=if k=0 then a else b
def Fl (a b:Mly){k:Nat}(h:k<2):((([AC.int .i64 a.inp,.int .i64 a.st,.list Γ a.nx,.list Γ a.ot,.int .i64 b.inp,.int .i64 b.st,.list Γ b.nx,.list Γ b.ot]:List AC).drop (k*4)).take 4)=
 [.int .i64 (chm a b k).inp,.int .i64 (chm a b k).st,.list Γ (chm a b k).nx,.list Γ (chm a b k).ot]:=by
 rcases(show k=0∨k=1 by omega) with rfl|rfl<;>rfl
def dqW (a b:Mly):Option (List Int):=if jE a b=0 then seS a b a.st b.st else none
def E3 {a b:Mly}(h:¬jE a b=0):dqW a b=none:=if_neg h
def GQ {a b:Mly}(h:jE a b=0):dqW a b=seS a b a.st b.st:=if_pos h
def eqQ (a b:Mly):Bool:=decide (jE a b=0)&& !(dqW a b).isSome
def MW (c:List Int)(k:Nat):(eQ c k).length≤k:=by
 unfold eQ;exact Nat.le_trans (List.length_filter_le _ _) η
def mnB (m:Mly):Bool:=decide (aK m=0)&&(decide (m.reach.length=m.nx.length)&&decide (m.mres.nx.length=m.nx.length))
def iZ (m:Mly):Int:=if ¬aK m=0 then aK m else if mnB m=true then 0 else 1
def Un {m:Mly}(h:¬aK m=0∨¬m.reach.length=m.nx.length):mnB m=false:=by
 unfold mnB;rcases h with h|h
 ·rw[decide_eq_false h];rfl
 ·rw[decide_eq_false h];simp
def Uq {m:Mly}(h:aK m=0)(h2:m.reach.length=m.nx.length):mnB m=decide (m.mres.nx.length=m.nx.length):=by
 unfold mnB;rw[decide_eq_true h,decide_eq_true h2];rfl
def cAt (m:Mly)(t:Int):Int:=(m.cls m.nx.length).getD t.toNat 0
structure MO (m:Mly)(O:List Int):Prop where
 rng:∀ o∈O,0≤o∧o<m.nx.length
 cd:O.Pairwise λx y=>cAt m x≠cAt m y
def MO.nd {m:Mly}{O:List Int}(h:MO m O):O.Nodup:=h.cd.imp λh e=>h (by rw[e])
def MO.len {m:Mly}{O:List Int}(h:MO m O):O.length≤m.nx.length:=gm _ _ h.nd h.rng
def kTo (K:List HC)(o:Int):Int:=match K.find? (λk=>decide (k.1=o)) with|some k=>k.2.1|none=>0
def wdG (m:Mly)(T:List jC):Nat→Nat→Int→List Int×Nat
 |0,p,_=>([],p)
 |f+1,p,s=>if(T.getD p nd0).2.1<0 then([],p) else
  ((T.getD p nd0).2.1::(wdG m T f (kTo (T.getD p nd0).2.2.1 (m.out s (T.getD p nd0).2.1)).toNat (m.nxt s (T.getD p nd0).2.1)).1,(wdG m T f (kTo (T.getD p nd0).2.2.1 (m.out s (T.getD p nd0).2.1)).toNat (m.nxt s (T.getD p nd0).2.1)).2)
structure RTI (m:Mly)(T:List jC)(p:Nat)(s:Int):Prop where
 ex:∃ f ini cur n,rtF m T f p ini cur=some n∧s∈cur∧rI m cur
def TJ (m:Mly):List Int→List Int→List Int
 |l,[]=>l
 |l,a::w=>TJ m (xY m l a) w
def chW (m:Mly):List Int→List Int→Prop
 |_,[]=>True
 |l,a::w=>(unS m l a l.length=false∧smO m l a l.length=true)∧chW m (xY m l a) w
structure BFQ (m:Mly)(l:List Int)(Q:List SS):Prop where
 rt:0<Q.length∧Q.getD 0 ss0=(l,[])
 pt:∀ k,k<Q.length→chW m l (Q.getD k ss0).2∧(Q.getD k ss0).1=TJ m l (Q.getD k ss0).2∧Py m (Q.getD k ss0).2
 mo:∀ j k,j≤k→k<Q.length→(Q.getD j ss0).2.length≤(Q.getD k ss0).2.length
 nd:∀ j k,j<k→k<Q.length→(Q.getD j ss0).1≠(Q.getD k ss0).1
 le:Q.length≤4096
def clQ (m:Mly)(Q:List SS)(j:Nat)(b:Int):Prop:=unS m (Q.getD j ss0).1 b (Q.getD j ss0).1.length=false→smO m (Q.getD j ss0).1 b (Q.getD j ss0).1.length=true∧∃ k,k<Q.length∧(Q.getD k ss0).1=xY m (Q.getD j ss0).1 b∧(Q.getD k ss0).2.length≤(Q.getD j ss0).2.length+1
structure BFI (m:Mly)(l:List Int)(i a:Nat)(Q:List SS):Prop where
 q:BFQ m l Q
 cl:∀ j,j<i→∀ b:Nat,b<m.inp.toNat→clQ m Q j b
 pc:∀ b:Nat,b<a→clQ m Q i b
 up:∀ k,k<Q.length→i<Q.length→(Q.getD k ss0).2.length≤(Q.getD i ss0).2.length+1
end Go.AV
