/- Part of the proof. -/
import Derived.Test.YtiedpcchhicifaaGreatDoorW00
set_option linter.unusedSimpArgs false
set_option linter.unusedVariables false
set_option maxRecDepth 100000
set_option maxHeartbeats 4000000
open Option.some renaming injEq→Λ
open Nat renaming le_refl→Υ
namespace Go.AV
open Nat renaming reduceEqDiff→ad,reduceAdd→J,reduceLeDiff→ae,reduceLT→aj,reduceMul→af,reduceSub→ag
open List renaming set_cons_zero→bu,set_cons_succ→bV,getD_cons_zero→aI,length_append→aq,map_cons→aJ,cons_append→aG,map_nil→aV,length_cons→ax,nil_append→aC,take_succ_cons→cE,length_nil→aF,length_map→aE,length_replicate→aB,take_length→aP,mem_cons_self→ba,mem_cons_of_mem→aQ
open Int renaming toNat_natCast→az
structure Mpr where
 inp:Int
 ab:Int
 st:Int
 nx:List (List Int)
 sy:List (List Int)
def Mpr.av (p:Mpr):AV:=.agg [.int .i64 p.inp,.int .i64 p.ab,.int .i64 p.st,.list Γ p.nx,.list Γ p.sy]
def Mpr.bad (p:Mpr)(s c:Nat):Prop:=(p.nx.getD s []).getD c 0<0∨(p.nx.length:Int)≤(p.nx.getD s []).getD c 0∨(p.sy.getD s []).getD c 0<0∨p.ab≤(p.sy.getD s []).getD c 0
instance (p:Mpr)(s c:Nat):Decidable (p.bad s c):=by unfold Mpr.bad;infer_instance
def Ox (p:Mpr)(s:Nat):Int:=if ¬((p.nx.getD s []).length:Int)=p.inp∨¬((p.sy.getD s []).length:Int)=p.inp then 1 else if(List.range p.inp.toNat).any (λc=>decide (p.bad s c))=true then 2 else 0
def IF (p:Mpr):Int:=if(p.inp<1∨64<p.inp)∨p.ab<1∨64<p.ab then 2 else if p.nx.length=0 then 19 else if 128<p.nx.length then 11 else if p.st<0∨(p.nx.length:Int)≤p.st then 2 else if ¬p.sy.length=p.nx.length then 1 else dK (Ox p) p.nx.length
theorem Rh {p:Mpr}{s:Nat}(h:((p.nx.getD s []).length:Int)=p.inp∧((p.sy.getD s []).length:Int)=p.inp)(hb:∀ c:Nat,(c:Int)<p.inp→¬p.bad s c):Ox p s=0:=by
 unfold Ox;rw[if_neg ω,if_neg];intro hh;obtain⟨c,hc,h2⟩:=List.any_eq_true.1 hh;have:=List.mem_range.1 hc;exact hb c ω (by simpa using h2)
structure POK (p:Mpr):Prop where
 i1:1≤p.inp
 i2:p.inp≤64
 b1:1≤p.ab
 b2:p.ab≤64
 n1:1≤p.nx.length
 n2:p.nx.length≤128
 s1:0≤p.st
 s2:p.st<p.nx.length
 sl:p.sy.length=p.nx.length
 rl:∀ s:Nat,s<p.nx.length→((p.nx.getD s []).length:Int)=p.inp
 ql:∀ s:Nat,s<p.nx.length→((p.sy.getD s []).length:Int)=p.inp
 cl:∀ s c:Nat,s<p.nx.length→(c:Int)<p.inp→0≤(p.nx.getD s []).getD c 0∧(p.nx.getD s []).getD c 0<p.nx.length
 yl:∀ s c:Nat,s<p.nx.length→(c:Int)<p.inp→0≤(p.sy.getD s []).getD c 0∧(p.sy.getD s []).getD c 0<p.ab
theorem POK.valid {p:Mpr}(h:POK p):IF p=0:=by
 have a1:=h.i1;have a2:=h.i2;have a3:=h.b1;have a4:=h.b2;have a5:=h.n1;have a6:=h.n2;have a7:=h.s1;have a8:=h.s2;have a9:=h.sl;unfold IF;rw[if_neg ω,if_neg ω,if_neg ω,if_neg ω,if_neg ω];exact bH λs hs=>Rh ⟨h.rl s hs,h.ql s hs⟩ λc hc hb=>by
  have:=h.cl s c hs hc;have:=h.yl s c hs hc;unfold Mpr.bad at hb;omega
def Mpr.tx (p:Mpr)(s c:Int):Int:=(p.nx.getD s.toNat []).getD c.toNat 0
def Mpr.sx (p:Mpr)(s c:Int):Int:=(p.sy.getD s.toNat []).getD c.toNat 0
theorem POK.tx {p:Mpr}(h:POK p){s c:Int}(hs:0≤s∧s<p.nx.length)(hc:0≤c∧c<p.inp):0≤p.tx s c∧p.tx s c<p.nx.length:=h.cl s.toNat c.toNat ω ω
theorem POK.sx {p:Mpr}(h:POK p){s c:Int}(hs:0≤s∧s<p.nx.length)(hc:0≤c∧c<p.inp):0≤p.sx s c∧p.sx s c<p.ab:=h.yl s.toNat c.toNat ω ω
def Mpr.rn (p:Mpr)(s:Int)(w:List Int):Int:=w.foldl (λs c=>p.tx s c) s
def Mpr.im (p:Mpr):Int→List Int→List Int
 |_,[]=>[]
 |s,c::w=>p.sx s c::p.im (p.tx s c) w
abbrev SS:=List Int×List Int
def ss0:SS:=([],[])
def TG:List SS→List Int→Nat
 |[],_=>0
 |s::S,x=>if s.1=x then 0 else TG S x+1
structure SB (m:Mly)(p:Mpr)(xs:List Int):Prop where
 ord:xs.Pairwise (· < ·)
 pos:0<xs.length
 rng:∀ x∈xs,0≤x∧x<p.nx.length*m.nx.length
theorem SB.kb {m:Mly}{p:Mpr}{xs:List Int}(h:SB m p xs)(hm:MOK m)(hp:POK p):KB xs:=λx hx=>by
 have:=h.rng x hx;have h8:(p.nx.length:Int)*m.nx.length≤128*128:=Int.mul_le_mul (by have:=hp.n2;omega) (by have:=hm.n2;omega) ω ω;omega
theorem tP:∀ {xs:List Int} {a b:Int},xs.Pairwise (· < ·)→(∀ x∈xs,a≤x∧x<b)→(xs.length:Int)≤b-a∨xs=[]
 |[],_,_,_,_=>.inr rfl
 |x::xs,a,b,h,hr=>.inl (by
  obtain⟨h1,h2⟩:=List.pairwise_cons.1 h;have hx:=hr x (ba ..);rcases tP (a:=x+1) (b:=b) h2 (λy hy=>⟨by have:=h1 y hy;omega,(hr y (aQ _ hy)).2⟩) with e|e
  ·simp only[ax];omega
  ·rw[e];simp only[ax,aF];omega)
theorem SB.len {m:Mly}{p:Mpr}{xs:List Int}(h:SB m p xs)(hm:MOK m)(hp:POK p):xs.length≤16384:=by
 have h8:(p.nx.length:Int)*m.nx.length≤128*128:=Int.mul_le_mul (by have:=hp.n2;omega) (by have:=hm.n2;omega) ω ω;rcases tP h.ord h.rng with e|e
 ·omega
 ·rw[e];simp
structure Mres where
 my:Mly
 w:List Int
 a:Int
 b:Int
 f:Bool
 e:Int
structure MS where
 S:List SS
 N:List (List Int)
 O:List (List Int)
 nr:List Int
 os:List Int
structure SVM (m:Mly)(p:Mpr)(k:Nat)(S:List SS):Prop where
 sb:∀ s∈S,SB m p s.1
 wl:∀ s∈S,s.2.length≤k
 le:S.length≤128
theorem SVM.at_ {m:Mly}{p:Mpr}{k i:Nat}{S:List SS}(h:SVM m p k S)(hi:i<S.length):SB m p (S.getD i ss0).1∧(S.getD i ss0).2.length≤k:=by
 have:S.getD i ss0∈S:=by simp[List.getD,hi]
 exact⟨h.sb _ this,h.wl _ this⟩
theorem SVM.kb {m:Mly}{p:Mpr}{k:Nat}{S:List SS}(h:SVM m p k S)(hm:MOK m)(hp:POK p):∀ s∈S,KB s.1:=λs hs=>(h.sb s hs).kb hm hp
def Mres.av (r:Mres):AV:=.tup [r.my.av,.agg [.list Θ r.w,.int .i64 r.a,.int .i64 r.b],.one (.bool r.f),.one (.int .i64 r.e)]
structure F12 where
 Q:List SS
 res:Option (Option (List Int))
def Ts (Q:List SS)(i a:Nat):List Int:=(Q.getD i ss0).2++[(a:Int)]
def TN (m:Mly)(Q:List SS)(i a:Nat):List Int:=vN m (Q.getD i ss0).1 a
def TX (m:Mly)(i:Nat)(t:F12)(a:Nat):F12:=
 match t.res with
 |some _=>t
 |none=>
  if unS m (t.Q.getD i ss0).1 a (t.Q.getD i ss0).1.length=true then t
  else if smO m (t.Q.getD i ss0).1 a (t.Q.getD i ss0).1.length=false then⟨t.Q,some (some (Ts t.Q i a))⟩
  else if TG t.Q (TN m t.Q i a)<t.Q.length then t
  else if 4096≤t.Q.length then⟨t.Q,some none⟩
  else⟨t.Q++[(TN m t.Q i a,Ts t.Q i a)],none⟩
def SY (m:Mly)(i:Nat)(t:F12):F12:=(List.range m.inp.toNat).foldl (TX m i) t
def PW (m:Mly):Nat→Nat→F12→F12
 |0,_,t=>t
 |f+1,i,t=>if t.res.isSome=true then t else if i<t.Q.length then PW m f (i+1) (SY m i t) else t
def VA (m:Mly)(l:List Int):Option (Option (List Int)):=(PW m 4097 0 ⟨[(l,[])],none⟩).res
def fdW (m:Mly)(l:List Int):Option (List Int):=(VA m l).getD none
structure FQ (m:Mly)(n:Nat)(Q:List SS):Prop where
 st:∀ s∈Q,rp m s.1
 ln:∀ s∈Q,s.1.length=n
 wl:∀ i,i<Q.length→(Q.getD i ss0).2.length≤i
 le:Q.length≤4096
theorem FQ.at_ {m:Mly}{n:Nat}{Q:List SS}(h:FQ m n Q){i:Nat}(hi:i<Q.length):rp m (Q.getD i ss0).1∧(Q.getD i ss0).1.length=n∧(Q.getD i ss0).2.length≤i:=by
 have:Q.getD i ss0∈Q:=by simp[List.getD,hi]
 exact⟨h.st _ this,h.ln _ this,h.wl i hi⟩
theorem FQ.snoc {m:Mly}{n:Nat}{Q:List SS}(h:FQ m n Q){x w:List Int}(h1:rp m x)(h2:x.length=n)(h3:w.length≤Q.length)(h4:Q.length<4096):FQ m n (Q++[(x,w)]):=by
 refine⟨λs hs=>?_,λs hs=>?_,λi hi=>?_,by rw[aq];simp only[ax,aF];omega⟩
 ·rcases List.mem_append.1 hs with q|q
  ·exact h.st s q
  ·rw[List.mem_singleton] at q;rw[q];exact h1
 ·rcases List.mem_append.1 hs with q|q
  ·exact h.ln s q
  ·rw[List.mem_singleton] at q;rw[q];exact h2
 ·rw[aq] at hi
  simp only[ax,aF] at hi
  by_cases e:i<Q.length
  ·have e2:(Q++[(x,w)]).getD i ss0=Q.getD i ss0:=by simp[List.getD,List.getElem?_append_left e]
   rw[e2];exact h.wl i e
  ·have e3:i=Q.length:=by omega
   have e2:(Q++[(x,w)]).getD i ss0=(x,w):=by rw[e3];simp[List.getD]
   rw[e2];show w.length≤i;omega
theorem FQ.one {m:Mly}{l:List Int}(h:rp m l):FQ m l.length [(l,[])]:=by
 refine⟨λs hs=>?_,λs hs=>?_,λi hi=>?_,η⟩
 ·rw[List.mem_singleton] at hs;rw[hs];exact h
 ·rw[List.mem_singleton] at hs;rw[hs]
 ·have:i=0:=by simpa using hi
  subst this;exact Υ _
def ouL (m:Mly)(l:List Int)(a:Int):List Int:=l.map λs=>m.out s a
def pkL (l at_:List Int):List Int:=at_.map λx=>l.getD x.toNat 0
def ptL (m:Mly)(l:List Int)(a o:Int)(k:Nat):List Int:=((List.range k).filter fun(q:Nat)=>decide (m.out (l.getD q 0) a=o)).map fun(q:Nat)=>(q:Int)
def Vu (m:Mly)(ini cur:List Int)(a:Int)(i:Nat)(o:Int):List Int:=pkL ini (ptL m cur a o i)
def N7 (m:Mly)(cur:List Int)(a:Int)(i:Nat)(o:Int):List Int:=vN m (pkL cur (ptL m cur a o i)) a
abbrev J0:=Int×(Int×Unit)
abbrev jH:=List Int×(Int×(List J0×Unit))
def Q0 (m:Mly)(w:List Int):Prop:=∀ x∈w,0≤x∧x<m.inp
structure FW (m:Mly)(t:F12):Prop where
 q:∀ s∈t.Q,Q0 m s.2
 r:∀ w,t.res=some (some w)→Q0 m w∧w≠[]
def nd0:jH:=([],(0,([],())))
def kd0:J0:=(0,(0,()))
def Tn (m:Mly)(rec:Nat→List Int→List Int→Option Nat)(ini cur:List Int)(x:jH)(e:Option Nat)(i:Nat):Option Nat:=
 match e with
 |none=>none
 |some n=>if(x.2.2.1.getD i kd0).1=(tY (ouL m cur x.2.1)).getD i 0∧(x.2.2.1.getD i kd0).2.1=(n:Int) then
   rec n (Vu m ini cur x.2.1 cur.length ((tY (ouL m cur x.2.1)).getD i 0)) (N7 m cur x.2.1 cur.length ((tY (ouL m cur x.2.1)).getD i 0)) else none
def rtF (m:Mly)(T:List jH):Nat→Nat→List Int→List Int→Option Nat
 |0,_,_,_=>none
 |f+1,p,ini,cur=>
  if p<T.length∧(T.getD p nd0).1=ini∧cur.Nodup then
   (if(T.getD p nd0).2.1= -1 then(if(T.getD p nd0).2.2.1.length=0 then some (p+1) else none) else
    if 0≤(T.getD p nd0).2.1∧(T.getD p nd0).2.1<m.inp∧(tY (ouL m cur (T.getD p nd0).2.1)).length=(T.getD p nd0).2.2.1.length then
     (List.range (T.getD p nd0).2.2.1.length).foldl (Tn m (rtF m T f) ini cur (T.getD p nd0)) (some (p+1)) else none)
  else none
structure TR12 (T:List jH):Prop where
 len:T.length≤4096
theorem Fd {m:Mly}{cl:List Int}{s:Int}{c d:Nat}(h:Ig m cl s c=some d):c<d∧d<cl.length∧IU m cl s c d=true:=by
 unfold Ig at h;have h1:=List.find?_some h;have h2:d<cl.length:=by simpa using List.mem_of_find?_eq_some h
 simp only[Bool.and_eq_true,decide_eq_true_eq] at h1;exact⟨h1.1,h2,h1.2⟩
theorem FG {m:Mly}{cl:List Int}{p:Nat×Nat×Nat}(h:JI m cl=some p):(p.1<m.exR.length∧p.2.1<cl.length∧p.2.2<cl.length)∧p.2.1<p.2.2∧IU m cl (m.exR.getD p.1 eX0).1 p.2.1 p.2.2=true:=by
 unfold JI at h;obtain⟨i,hi,he⟩:=List.exists_of_findSome?_eq_some h
 cases hc:MG m cl (m.exR.getD i eX0).1 with
 |none=>rw[hc] at he;cases he
 |some q=>
  rw[hc] at he;simp only[Option.map_some,Λ] at he;subst he;unfold MG at hc;obtain⟨c,hcm,hce⟩:=List.exists_of_findSome?_eq_some hc
  cases hd:Ig m cl (m.exR.getD i eX0).1 c with
  |none=>rw[hd] at hce;cases hce
  |some d=>
   rw[hd] at hce;simp only[Option.map_some,Λ] at hce;subst hce;obtain⟨h1,h2,h3⟩:=Fd hd;exact⟨⟨by simpa using hi,by simpa using hcm,h2⟩,h1,h3⟩
def PV (m:Mly)(cl:List Int):Bool:=if zZ m cl=0 then(JI m cl).isSome else false
def SYM (n:Int)(w:List Int):Prop:=∀ a,a∈w→0≤a∧a<n
theorem zq {a b:Mly}(ha:MOK a)(hb:MOK b)(hi:a.inp=b.inp){B:Nat}(hB:a.nx.length*b.nx.length≤B):∀ (f i:Nat) (l:List S3),WFS a b l→∀ w,srS a b f i l=some w→w.length≤B+1
 |0,_,_,_,w,h=>by cases h
 |f+1,i,l,hl,w,h=>by
  simp only[srS] at h;split at h
  ·rename_i hil
   have h1:=hl.wl hil;have h2:=hl.le;have h3:=ha.i1;split at h
   ·simp only[Λ] at h;subst h
    rw[aq];simp only[ax,aF];omega
   ·exact zq ha hb hi hB f (i+1) _ (hl.row ha hb hi hil a.inp.toNat ω) w h
  ·cases h
structure SHW (m:Mly)(cl:List Int)(u v:List Int):Prop where
 su:SYM m.inp u
 sv:SYM m.inp v
 lu:u.length≤200
 lv:v.length=u.length
 pos:0<u.length
 ne:(m.go m.st u).2≠(m.go m.st v).2
 im:u.map (λa=>cl.getD a.toNat 0)=v.map λa=>cl.getD a.toNat 0
theorem J6 {n i:Nat}:(List.replicate n (0:Int)).getD i 0=0:=by
 by_cases h:i<n
 ·simp[List.getD,h]
 ·simp[List.getD,Nat.le_of_not_lt h]
def iP (m:Mly):List Int:=if aK m=0 then(nmS (lJ m) m.inp.toNat).1 else []
def ER (m:Mly):Int:=if aK m=0 then((nmS (lJ m) m.inp.toNat).2.length:Int) else 0
theorem Rw {T:Nat→Nat→Bool}{n c d:Nat}(hT:EQT T n)(hc:c<n)(hd:d<n):(nmS T n).1.getD c 0=(nmS T n).1.getD d 0↔T c d=true:=by
 have hp:=nmp hT n (Υ _);obtain⟨r1,r2,r3⟩:=lQ T n;obtain⟨c1,c2,c3⟩:=hp.at_ c hc;obtain⟨d1,d2,d3⟩:=hp.at_ d hd;have hmc:=r3 _ (cP (w:=(nmS T n).2) (i:=((nmS T n).1.getD c 0).toNat) ω);have hmd:=r3 _ (cP (w:=(nmS T n).2) (i:=((nmS T n).1.getD d 0).toNat) ω)
 constructor
 ·intro e
  rw[← e] at d3;exact hT.tr c _ d hc ω hd (hT.sy _ c ω hc c3) d3
 ·intro h
  have h1:=hT.tr _ c d ω hc hd c3 h;have h2:=hT.tr _ d _ ω hd ω h1 (hT.sy _ d ω hd d3);rcases Nat.lt_trichotomy ((nmS T n).1.getD c 0).toNat ((nmS T n).1.getD d 0).toNat with hh|hh|hh
  ·have:=hp.ap _ _ hh ω
   rw[h2] at this;cases this
  ·omega
  ·have h3:=hT.sy _ _ ω ω h2
   have:=hp.ap _ _ hh ω;rw[h3] at this;cases this
structure RUN (m:Mly):Prop where
 len:(iP m).length=m.inp.toNat
 ce:nB (iP m)=0
 ck:JY (iP m)=ER m
 eq:∀ c d:Nat,c<m.inp.toNat→d<m.inp.toNat→((iP m).getD c 0=(iP m).getD d 0↔lJ m c d=true)
 ch:zZ m (iP m)=0
 no:PV m (iP m)=false
theorem LF {m:Mly}{cl:List Int}(hk:COK m cl)(h:∀ c d:Nat,c<m.inp.toNat→d<m.inp.toNat→cl.getD c 0=cl.getD d 0→lJ m c d=true):PV m cl=false:=by
 have hlen:=hk.len;unfold PV;split
 ·cases hf:JI m cl with
  |none=>rfl
  |some p=>
   exfalso;obtain⟨⟨p1,p2,p3⟩,p4,p5⟩:=FG hf;unfold IU at p5;simp only[Bool.and_eq_true,Bool.not_eq_true',decide_eq_true_eq] at p5;have h1:=j6.1 (h p.2.1 p.2.2 ω ω p5.1) p.1 (by rw[jT];exact p1);rw[qn p1,p5.2] at h1
   cases h1
 ·rfl
theorem TC {m:Mly}(hm:MOK m):RUN m:=by
 have hi1:=hm.i1;have hi2:=hm.i2;have hv:=ci hm;have eL:iP m=(nmS (lJ m) m.inp.toNat).1:=by unfold iP;rw[if_pos hv]
 have eN:ER m=((nmS (lJ m) m.inp.toNat).2.length:Int):=by unfold ER;rw[if_pos hv]
 have hc:=Rx (lJ m) (n:=m.inp.toNat) ω ω;have hr:=lQ (lJ m) m.inp.toNat;have hq:∀ c d:Nat,c<m.inp.toNat→d<m.inp.toNat→((iP m).getD c 0=(iP m).getD d 0↔lJ m c d=true):=λc d h1 h2=>by rw[eL];exact Rw (LL m _) h1 h2
 have hl:(iP m).length=m.inp.toNat:=by rw[eL];exact hr.1
 have hce:nB (iP m)=0:=by rw[eL];exact hc.1
 have hch:zZ m (iP m)=0:=by
  unfold zZ;rw[if_neg (by simp[hv]),if_neg (by simp[hce]),if_pos ω]
 exact⟨hl,hce,by rw[eL,eN];exact hc.2,hq,hch,LF (Qp hch) λc d h1 h2 e=>(hq c d h1 h2).1 e⟩
theorem Cn {cl:List Int}(hb:∀ q,q<cl.length→iV cl q=false):∀ k,k≤cl.length→∀ v,0≤v→v<cN cl k→∃ q,q<k∧cl.getD q 0=v
 |0,_,v,h0,h1=>by simp only[cN] at h1;omega
 |k+1,hk,v,h0,h1=>by
  have h2:=hb k ω;simp only[iV,Bool.or_eq_false_iff,decide_eq_false_iff_not] at h2;simp only[cN] at h1
  by_cases e:v<cN cl k
  ·obtain⟨q,q1,q2⟩:=Cn hb k ω v h0 e
   exact⟨q,ω,q2⟩
  ·exact⟨k,ω,ω⟩
theorem LW (cl:List Int):∀ k q,q<k→cl.getD q 0<cN cl k
 |0,q,h=>by omega
 |k+1,q,h=>by
  simp only[cN]
  by_cases e:q=k
  ·rw[e];omega
  ·have:=LW cl k q ω;omega
theorem Bi (cl:List Int):∀ k,0≤cN cl k
 |0=>Int.le_refl _
 |k+1=>by have:=Bi cl k;simp only[cN];omega
structure STD (m:Mly)(C:List Int)(j:Nat):Prop where
 len:C.length=m.inp.toNat
 ce:nB C=0
 co:∀ c d:Nat,c<m.inp.toNat→d<m.inp.toNat→lJ m c d=true→C.getD c 0=C.getD d 0
 ct:(j:Int)+1≤JY C
theorem xU (m:Mly)(cl:List Int):∀ k,k≤m.nx.length→cN (m.nextL cl) k=((et (m.sig cl) k).length:Int)∧∀ q,q<k→iV (m.nextL cl) q=false
 |0,_=>⟨by simp[cN,et],λq h=>by omega⟩
 |k+1,h=>by
  obtain⟨i1,i2⟩:=xU m cl k ω;have hv:=oZ (cl:=cl) (s:=k) (by omega:k<m.nx.length)
  by_cases hs:m.sig cl k∈et (m.sig cl) k
  ·have h1:=sF (cl:=cl) (by omega:k<m.nx.length) hs
   have h2:=l5 hs;rw[h1] at hv;refine⟨?_,λq hq=>?_⟩
   ·rw[f8,gU hs];simp only[cN];omega
   ·by_cases e:q=k
    ·subst e;exact qL ω ω
    ·exact i2 q ω
  ·have h1:=tm (cl:=cl) (by omega:k<m.nx.length) hs
   rw[h1] at hv;refine⟨?_,λq hq=>?_⟩
   ·rw[f8,gg hs,aq];simp only[cN,ax,aF];omega
   ·by_cases e:q=k
    ·subst e;exact qL ω ω
    ·exact i2 q ω
theorem jp {m:Mly}(hm:MOK m):∀ q,q<m.eqc.length→iV m.eqc q=false:=by
 obtain⟨j,h1,h2,h3⟩:=sM hm;rw[h1,wW]
 cases j with
 |zero=>exact λq hq=>qL (by show 0≤(List.replicate _ (0:Int)).getD q 0;rw[J6];omega) (by show(List.replicate _ (0:Int)).getD q 0≤_;rw[J6];exact Bi _ _)
 |succ i=>exact(xU m (m.cls i) m.nx.length (Υ _)).2
def eQ (c:List Int)(k:Nat):List Nat:=(List.range k).filter λs=>decide (c.getD s 0=cN c s)
theorem sY {c:List Int}{k:Nat}(h:c.getD k 0=cN c k):eQ c (k+1)=eQ c k++[k]:=by
 unfold eQ;rw[List.range_succ,List.filter_append];simp only[List.filter_cons,List.filter_nil,h,decide_true,if_true]
theorem rZ {c:List Int}{k:Nat}(h:¬c.getD k 0=cN c k):eQ c (k+1)=eQ c k:=by
 unfold eQ;rw[List.range_succ,List.filter_append];simp only[List.filter_cons,List.filter_nil,decide_eq_false h,Bool.false_eq_true,if_false,List.append_nil]
structure REP (c:List Int)(k:Nat):Prop where
 len:((eQ c k).length:Int)=cN c k
 at_:∀ r,r<(eQ c k).length→(eQ c k).getD r 0<k∧c.getD ((eQ c k).getD r 0) 0=r
theorem E0 {xs ys:List Nat}{i:Nat}(h:i<xs.length):(xs++ys).getD i 0=xs.getD i 0:=by simp[List.getD,List.getElem?_append_left h]
theorem BA {c:List Int}(hb:∀ q,q<c.length→iV c q=false):∀ k,k≤c.length→REP c k
 |0,_=>⟨rfl,λr h=>by simp[eQ] at h⟩
 |k+1,h=>by
  have ih:=BA hb k ω;have h1:=hb k ω;simp only[iV,Bool.or_eq_false_iff,decide_eq_false_iff_not] at h1;have hl:=ih.len
  by_cases e:c.getD k 0=cN c k
  ·rw[show REP c (k+1)=REP c (k+1) from rfl]
   refine⟨?_,λr hr=>?_⟩
   ·rw[sY e,aq];simp only[ax,aF,cN];omega
   ·rw[sY e] at hr⊢
    rw[aq] at hr;simp only[ax,aF] at hr
    by_cases e2:r=(eQ c k).length
    ·have:(eQ c k++[k]).getD r 0=k:=by subst e2;simp[List.getD]
     rw[this];exact⟨ω,ω⟩
    ·rw[E0 ω]
     have:=ih.at_ r ω;exact⟨ω,this.2⟩
  ·refine⟨?_,λr hr=>?_⟩
   ·rw[rZ e];simp only[cN];omega
   ·rw[rZ e] at hr⊢
    have:=ih.at_ r hr;exact⟨ω,this.2⟩
def Mly.f (t:Mly)(x:Int):Int:=t.eqc.getD x.toNat 0
def Mly.reps (t:Mly):List Nat:=eQ t.eqc t.nx.length
def Mly.qm (t:Mly):Mly:=⟨t.inp,0,t.reps.map (λs=>(t.nx.getD s []).map t.f),t.reps.map λs=>t.ot.getD s []⟩
theorem jz {t:Mly}(ht:MOK t):REP t.eqc t.nx.length:=by
 have hl:=(gM ht).len;have:=BA (jp ht) t.nx.length ω;exact this
theorem rJ (t:Mly):t.qm.nx.length=t.reps.length:=by simp[Mly.qm]
theorem F7 {t:Mly}{r:Nat}(h:r<t.reps.length):t.qm.nx.getD r []=(t.nx.getD (t.reps.getD r 0) []).map t.f:=by
 show(t.reps.map _).getD r []=_;rw[gf _ 0 _ h]
theorem Gn {t:Mly}{r:Nat}(h:r<t.reps.length):t.qm.ot.getD r []=t.ot.getD (t.reps.getD r 0) []:=by
 show(t.reps.map _).getD r []=_;rw[gf _ 0 _ h]
theorem sj {t:Mly}(ht:MOK t){s:Int}(h0:0≤s)(h1:s<t.nx.length):0≤t.f s∧t.f s<t.reps.length:=by
 have hl:=(jz ht).len;have:=LW t.eqc t.nx.length s.toNat ω;have h2:=(gM ht).rng s.toNat ω;unfold Mly.f Mly.reps;omega
theorem Ul {t:Mly}(ht:MOK t){s:Int}(h0:0≤s)(h1:s<t.nx.length):t.reps.getD (t.f s).toNat 0<t.nx.length∧t.f (t.reps.getD (t.f s).toNat 0:Nat)=t.f s:=by
 have hf:=sj ht h0 h1;have:=(jz ht).at_ (t.f s).toNat (by have:=hf.2;unfold Mly.reps at this;omega);refine⟨this.1,?_⟩;show t.eqc.getD ((t.reps.getD (t.f s).toNat 0:Nat):Int).toNat 0=_;rw[az];have h2:=this.2;unfold Mly.reps;rw[h2];omega
theorem P1 {t:Mly}(ht:MOK t):MOK t.qm:=by
 have hq:=rJ t;have hr:=jz ht;have hn1:=ht.n1;have hn2:=ht.n2;have h0:=sj ht (s:=0) ω ω;have hle:t.reps.length≤t.nx.length:=by
  unfold Mly.reps eQ;exact Nat.le_trans (List.length_filter_le _ _) η
 have hol:t.qm.ot.length=t.reps.length:=by simp[Mly.qm]
 have hat:∀ r,r<t.reps.length→t.reps.getD r 0<t.nx.length:=λr h=>(hr.at_ r h).1;refine⟨ht.i1,ht.i2,ω,ω,Int.le_refl 0,by show(0:Int)<_;omega,ω,λs hs=>?_,λs hs=>?_,λs a hs ha=>?_,λs a hs ha=>?_⟩
 ·rw[F7 ω,aE]
  exact ht.rl _ (hat s ω)
 ·rw[Gn ω]
  exact ht.ql _ (hat s ω)
 ·have ha':(a:Int)<t.inp:=ha
  have h1:=ht.rl _ (hat s ω);rw[F7 ω,gf t.f 0 0 ω];have h2:=ht.nr _ a (hat s ω) ha';have:=sj ht h2.1 h2.2;omega
 ·rw[Gn ω]
  exact ht.or _ a (hat s ω) ha
theorem HV {t:Mly}(ht:MOK t){s a:Int}(h0:0≤s)(h1:s<t.nx.length)(ha:0≤a∧a<t.inp):t.qm.out (t.f s) a=t.out s a∧t.qm.nxt (t.f s) a=t.f (t.nxt s a):=by
 have hf:=sj ht h0 h1;obtain⟨r1,r2⟩:=Ul ht h0 h1;have e:t.eqc.getD (t.reps.getD (t.f s).toNat 0) 0=t.eqc.getD s.toNat 0:=by
  have:=r2;unfold Mly.f at this;rw[az] at this;exact this
 have hst:=(gM ht).step _ s.toNat r1 ω e a.toNat ω;have hrl:=ht.rl _ r1
 constructor
 ·show(t.qm.ot.getD (t.f s).toNat []).getD a.toNat 0=_
  rw[Gn ω,hst.1];rfl
 ·show(t.qm.nx.getD (t.f s).toNat []).getD a.toNat 0=_
  rw[F7 ω,gf t.f 0 0 ω];exact hst.2
theorem IK {t:Mly}(ht:MOK t):∀ (w:List Int) (s:Int),0≤s→s<t.nx.length→(∀ i:Nat,i<w.length→0≤w.getD i 0∧w.getD i 0<t.inp)→(t.qm.go (t.f s) w).2=(t.go s w).2
 |[],s,_,_,_=>rfl
 |a::w,s,h0,h1,hw=>by
  obtain⟨ha,hw2⟩:=mQ hw;obtain⟨e1,e2⟩:=HV ht h0 h1 ha;rw[fq,fq,e1,e2];have hn:=ht.nr s.toNat a.toNat ω ω;have:=IK ht w (t.nxt s a) hn.1 hn.2 hw2;rw[this]
theorem Vz {t:Mly}(ht:MOK t):∀ i j:Int,0≤i→i<t.qm.nx.length→0≤j→j<t.qm.nx.length→EQV t.qm i j→i=j:=by
 intro i j i0 i1 j0 j1 h;have hq:=rJ t;have ri:=(jz ht).at_ i.toNat (by unfold Mly.reps at hq;omega);have rj:=(jz ht).at_ j.toNat (by unfold Mly.reps at hq;omega);have fi:t.f (((eQ t.eqc t.nx.length).getD i.toNat 0:Nat):Int)=i:=by unfold Mly.f;rw[az,ri.2];omega
 have fj:t.f (((eQ t.eqc t.nx.length).getD j.toNat 0:Nat):Int)=j:=by unfold Mly.f;rw[az,rj.2];omega
 have hv:EQV t (((eQ t.eqc t.nx.length).getD i.toNat 0:Nat):Int) (((eQ t.eqc t.nx.length).getD j.toNat 0:Nat):Int):=λw hw=>by
  have g1:=IK ht w (((eQ t.eqc t.nx.length).getD i.toNat 0:Nat):Int) (Int.natCast_nonneg _) (by have:=ri.1;omega) hw;have g2:=IK ht w (((eQ t.eqc t.nx.length).getD j.toNat 0:Nat):Int) (Int.natCast_nonneg _) (by have:=rj.1;omega) hw;rw[fi] at g1;rw[fj] at g2;rw[← g1,← g2];exact h w hw
 have:=(xY ht (Int.natCast_nonneg _) (by have:=ri.1;omega) (Int.natCast_nonneg _) (by have:=rj.1;omega)).2 hv;rw[← fi,← fj];exact this
abbrev STP:=PP→Nat→PP
abbrev W3:=PP×List Int
def w30:W3:=(d0,[])
def dIn (l:List W3)(q:PP):Bool:=l.any λf=>decide (f.1=q)
def dSt (A:STP)(e:W3)(l:List W3)(x:Nat):List W3:=if dIn l (A e.1 x)=true then l else l++[(A e.1 x,e.2++[(x:Int)])]
def mU (A:STP)(e:W3)(l:List W3)(x:Nat):List W3:=(List.range x).foldl (dSt A e) l
theorem Ee {l:List W3}{q:PP}:dIn l q=true↔q∈l.map Prod.fst:=by
 unfold dIn;rw[List.any_eq_true,List.mem_map]
 constructor
 ·rintro⟨e,he,h⟩;exact⟨e,he,by simpa using h⟩
 ·rintro⟨e,he,h⟩;exact⟨e,he,by simpa using h⟩
theorem BQ {A:STP}{e:W3}{l:List W3}{x:Nat}(h:A e.1 x∈l.map Prod.fst):dSt A e l x=l:=if_pos (Ee.2 h)
theorem vR {A:STP}{e:W3}{l:List W3}{x:Nat}(h:A e.1 x∉l.map Prod.fst):dSt A e l x=l++[(A e.1 x,e.2++[(x:Int)])]:=if_neg λk=>h (Ee.1 k)
theorem md (A:STP)(e:W3)(l:List W3)(x:Nat):mU A e l (x+1)=dSt A e (mU A e l x) x:=by
 unfold mU;rw[List.range_succ,List.foldl_append];rfl
theorem Pa (A:STP)(e:W3)(l:List W3)(x:Nat):∃ k,dSt A e l x=l++k:=by
 unfold dSt;split
 ·exact⟨[],η⟩
 ·exact⟨_,rfl⟩
theorem vX (A:STP)(e:W3)(l:List W3)(x:Nat):∀ d,∃ k,mU A e l (x+d)=mU A e l x++k
 |0=>⟨[],η⟩
 |d+1=>by
  obtain⟨k,h⟩:=vX A e l x d;obtain⟨k',h'⟩:=Pa A e (mU A e l (x+d)) (x+d);exact⟨k++k',by rw[← Nat.add_assoc,md,h',h,List.append_assoc]⟩
theorem KJ (A:STP)(e:W3)(l:List W3)(x:Nat):∃ k,mU A e l x=l++k:=by
 obtain⟨k,h⟩:=vX A e l 0 x;rw[Nat.zero_add] at h;exact⟨k,h⟩
def inR (n1 n2:Nat)(q:PP):Prop:=(0≤q.1∧q.1<n1)∧0≤q.2∧q.2<n2
structure DW (n1 n2:Nat)(l:List W3):Prop where
 nd:(l.map Prod.fst).Nodup
 rg:∀ e,e∈l→inR n1 n2 e.1
 wl:∀ e,e∈l→e.2.length<l.length
theorem BI {l:List W3}{i:Nat}(h:i<l.length):l.getD i w30∈l:=by simp[List.getD,h]
theorem DW.le {n1 n2:Nat}{l:List W3}(h:DW n1 n2 l):l.length≤n1*n2:=by
 have hnd:((l.map Prod.fst).map λq:PP=>q.1*(n2:Int)+q.2).Nodup:=by
  rw[List.nodup_iff_pairwise_ne,List.pairwise_map];refine List.Pairwise.imp_of_mem (λ{a b} ha hb hab=>?_) (List.nodup_iff_pairwise_ne.1 h.nd);intro e;obtain⟨ea,hea,rfl⟩:=List.mem_map.1 ha;obtain⟨eb,heb,rfl⟩:=List.mem_map.1 hb;have:=yZ (h.rg ea hea).2 (h.rg eb heb).2 e;exact hab (Prod.ext this.1 this.2)
 have:=gz (n1*n2) _ hnd (λx hx=>by
  obtain⟨q,hq,rfl⟩:=List.mem_map.1 hx;obtain⟨e,he,rfl⟩:=List.mem_map.1 hq;have hr:=h.rg e he;have:=DQ hr.1 hr.2;rw[Int.natCast_mul];exact this)
 simpa using this
theorem DW.step {n1 n2 n:Nat}{A:STP}(hA:∀ q,inR n1 n2 q→∀ x,x<n→inR n1 n2 (A q x)){l:List W3}(h:DW n1 n2 l){e:W3}(he:e∈l){x:Nat}(hx:x<n):DW n1 n2 (dSt A e l x):=by
 by_cases hin:A e.1 x∈l.map Prod.fst
 ·rw[BQ hin];exact h
 ·rw[vR hin]
  refine⟨?_,λf hf=>?_,λf hf=>?_⟩
  ·rw[List.map_append,aJ,aV,List.nodup_append]
   refine⟨h.nd,η,λa ha b hb=>?_⟩;simp at hb;subst hb;intro hab;subst hab;exact hin ha
  ·rcases List.mem_append.1 hf with hf|hf
   ·exact h.rg f hf
   ·simp at hf;subst hf;exact hA _ (h.rg e he) x hx
  ·rw[aq,List.length_singleton]
   rcases List.mem_append.1 hf with hf|hf
   ·have:=h.wl f hf;omega
   ·simp at hf;subst hf
    have:=h.wl e he;simp only[aq,List.length_singleton];omega
theorem DW.row {n1 n2 n:Nat}{A:STP}(hA:∀ q,inR n1 n2 q→∀ x,x<n→inR n1 n2 (A q x)){l:List W3}(h:DW n1 n2 l){i:Nat}(hi:i<l.length):∀ x,x≤n→DW n1 n2 (mU A (l.getD i w30) l x)
 |0,_=>by simpa [mU] using h
 |x+1,hx=>by
  rw[md];refine(h.row hA hi x ω).step hA ?_ ω;obtain⟨k,e⟩:=KJ A (l.getD i w30) l x;rw[e];exact List.mem_append.2 (.inl (BI hi))
def hF (h:PP→PP)(l:List W3):List PP:=l.map λe=>h e.1
structure HOM (A B:STP)(n:Nat)(I:PP→Prop)(h:PP→PP):Prop where
 cl:∀ p,I p→∀ x,x<n→I (A p x)
 eq:∀ p,I p→∀ x,x<n→B (h p) x=h (A p x)
theorem UE {xs ys:List Int}(h:xs.length=ys.length)(h2:∀ i,i<xs.length→xs.getD i 0=ys.getD i 0):xs=ys:=by
 refine List.ext_getElem h λi h1 h3=>?_;have:=h2 i h1
 simpa [List.getD,h1,h3] using this
def dd (f:Int→Int)(l:List Int):List Int:=(l.map f).foldl cw []
theorem Hx (f:Int→Int)(l:List Int)(x:Int):dd f (l++[x])=cw (dd f l) (f x):=by
 unfold dd;rw[List.map_append,List.foldl_append];rfl
theorem HW {f:Int→Int}{l:List Int}{y:Int}:y∈dd f l↔∃ x,x∈l∧f x=y:=by
 unfold dd;rw[kq,List.mem_map];simp
theorem Du (f:Int→Int):∀ (r l:List Int),(r.map f).foldl cw (dd f l)=dd f (r.foldl cw l)
 |[],_=>rfl
 |x::r,l=>by
  rw[aJ,List.foldl_cons,List.foldl_cons,← Du f r (cw l x)]
  congr 1
  by_cases h:x∈l
  ·rw[gF h,gF (HW.2 ⟨x,h,rfl⟩)]
  ·rw[fg h,Hx]
theorem Cz:∀ (r l:List Int),(∀ x,x∈r→x∈l)→r.foldl cw l=l
 |[],_,_=>rfl
 |x::r,l,h=>by
  rw[List.foldl_cons,gF (h x η)];exact Cz r l λy hy=>h y (by simp[hy])
theorem qQ (c:List Int){a:Nat}:∀ {b:Nat},a≤b→cN c a≤cN c b
 |0,h=>by
  have:a=0:=ω;subst this;exact Int.le_refl _
 |b+1,h=>by
  by_cases e:a=b+1
  ·subst e;exact Int.le_refl _
  ·have:=qQ c (a:=a) (b:=b) ω
   simp only[cN];omega
theorem BF {t:Mly}(ht:MOK t):∀ k,k≤t.nx.length→dd t.f (rgI k)=rgI (cN t.eqc k).toNat
 |0,_=>rfl
 |k+1,h=>by
  have hl:=(gM ht).len;have h1:=jp ht k ω;simp only[iV,Bool.or_eq_false_iff,decide_eq_false_iff_not] at h1;have hn:=Bi t.eqc k;have hf:t.f (k:Int)=t.eqc.getD k 0:=by unfold Mly.f;rw[az]
  rw[zj,Hx,BF ht k ω,hf]
  by_cases e:t.eqc.getD k 0=cN t.eqc k
  ·rw[fg (λhm=>by have:=kr.1 hm;omega),show(cN t.eqc (k+1)).toNat=(cN t.eqc k).toNat+1 by simp only[cN];omega,zj,e,Int.toNat_of_nonneg hn]
  ·rw[gF (kr.2 ⟨ω,ω⟩),show(cN t.eqc (k+1)).toNat=(cN t.eqc k).toNat by simp only[cN];omega]
theorem vT {t:Mly}(ht:MOK t){s:Int}(h0:0≤s)(h1:s<t.nx.length):t.qm.row (t.f s)=(t.row s).map t.f:=by
 have hf:=sj ht h0 h1;have hq:=rJ t;have hi1:=ht.i1;have r1:((t.qm.row (t.f s)).length:Int)=t.inp:=(P1 ht).rl (t.f s).toNat ω;have r2:((t.row s).length:Int)=t.inp:=ht.rl s.toNat ω;refine UE (by rw[aE];omega) λa ha=>?_;rw[gf t.f 0 0 ω];have:=(HV ht h0 h1 (a:=(a:Int)) ⟨ω,ω⟩).2;exact this
theorem LQ {t:Mly}(ht:MOK t)(hr:t.reach=rgI t.nx.length):∀ (g i:Nat) (L:List Int),t.nx.length<g+i→t.rf g i L=t.reach→L=rgI L.length→L.length≤t.nx.length→i≤L.length→
 (∀ j:Nat,j<i→∀ x,x∈t.row j→x∈L)→∀ F,t.reps.length<F+(cN t.eqc i).toNat→t.qm.rf F (cN t.eqc i).toNat (dd t.f L)=dd t.f t.reach
 |0,i,L,hg,_,_,hL,hi,_,F,_=>by omega
 |g+1,i,L,hg,hrf,hp,hL,hi,hcl,F,hF=>by
  have hlen:=(gM ht).len;have hK:=(jz ht).len;have hnn:=Bi t.eqc i;have hdd:dd t.f L=rgI (cN t.eqc L.length).toNat:=by
   have:=BF ht L.length hL;rwa[← hp] at this
  by_cases hil:i<L.length
  ·have hLi:L.getD i 0=(i:Int):=by rw[hp];exact oq hil
   rw[jo t g i L hil,hLi] at hrf;have hmi:(i:Int)∈L:=by rw[← hLi];exact cP hil
   have h1:=jp ht i ω;simp only[iV,Bool.or_eq_false_iff,decide_eq_false_iff_not] at h1;have hm1:=qQ t.eqc (a:=i+1) (b:=L.length) ω;have hm2:=qQ t.eqc (a:=i) (b:=t.nx.length) ω;have hpre:∃ k,(t.row i).foldl cw L++k=rgI t.nx.length:=by
    obtain⟨k,e⟩:=oT t g (i+1) ((t.row i).foldl cw L);exact⟨k,by rw[← e,hrf,hr]⟩
   obtain⟨k,hk⟩:=hpre;have hp2:=we hk;have hL2:((t.row i).foldl cw L).length≤t.nx.length:=by
    have:=congrArg List.length hk;rw[aq,fK] at this;omega
   have hge:=qv (t.row i) L;have hcl2:∀ j:Nat,j<i+1→∀ x,x∈t.row j→x∈(t.row i).foldl cw L:=λj hj x hx=>by
    by_cases e:j=i
    ·subst e;exact kq.2 (.inr hx)
    ·exact kq.2 (.inl (hcl j ω x hx))
   have hfi:t.f (i:Int)=t.eqc.getD i 0:=by unfold Mly.f;rw[az]
   have hfold:=Du t.f (t.row i) L
   by_cases e:t.eqc.getD i 0=cN t.eqc i
   ·have ec:(cN t.eqc (i+1)).toNat=(cN t.eqc i).toNat+1:=by simp only[cN];omega
    have hKb:(cN t.eqc i).toNat<t.reps.length:=by
     have:=qQ t.eqc (a:=i+1) (b:=t.nx.length) ω;unfold Mly.reps;omega
    obtain⟨F2,rfl⟩:∃ F2,F=F2+1:=⟨F-1,ω⟩
    have hlt:(cN t.eqc i).toNat<(dd t.f L).length:=by rw[hdd,fK];omega
    rw[jo t.qm F2 _ _ hlt];have hat:(dd t.f L).getD (cN t.eqc i).toNat 0=t.f (i:Int):=by
     rw[hdd,oq (by rw[hdd,fK] at hlt;exact hlt),hfi];omega
    rw[hat,vT ht ω ω,hfold,← ec];exact LQ ht hr g (i+1) _ ω hrf hp2 hL2 ω hcl2 F2 ω
   ·have ec:(cN t.eqc (i+1)).toNat=(cN t.eqc i).toNat:=by simp only[cN];omega
    obtain⟨q,q1,q2⟩:=Cn (jp ht) i ω (t.eqc.getD i 0) ω ω;have hfq:t.f (q:Int)=t.f (i:Int):=by rw[hfi,← q2];unfold Mly.f;rw[az]
    have hrow:(t.row i).map t.f=(t.row q).map t.f:=by
     rw[← vT ht ω ω,← vT ht ω ω,hfq]
    have hin:((t.row i).map t.f).foldl cw (dd t.f L)=dd t.f L:=Cz _ _ λy hy=>by
     rw[hrow,List.mem_map] at hy;obtain⟨x,hx,rfl⟩:=hy;exact HW.2 ⟨x,hcl q q1 x hx,rfl⟩
    rw[hfold] at hin;rw[← hin,← ec];exact LQ ht hr g (i+1) _ ω hrf hp2 hL2 ω hcl2 F ω
  ·have hie:i=L.length:=by omega
   rw[i4 t _ _ _ ω] at hrf;rw[i4 t.qm _ _ _ (by rw[hdd,fK,hie];exact Υ _),← hrf]
theorem U6 {t:Mly}(ht:MOK t)(hs:t.st=0)(hr:t.reach=rgI t.nx.length):CAN t.qm:=by
 have hlen:=(gM ht).len;have hn1:=ht.n1;have hK:=(jz ht).len;refine⟨P1 ht,rfl,?_,Vz ht⟩;have h0:=jp ht 0 ω;simp only[iV,Bool.or_eq_false_iff,decide_eq_false_iff_not] at h0;have hz0:cN t.eqc 0=0:=rfl;have hf0:t.f 0=0:=by unfold Mly.f;show t.eqc.getD 0 0=0;omega
 have hd0:dd t.f [0]=[0]:=by show cw [] (t.f 0)=_;rw[hf0];rfl
 have hrf:t.rf (t.nx.length+1) 0 [0]=t.reach:=by rw[eV (ci ht),hs]
 have:=LQ ht hr (t.nx.length+1) 0 [0] ω hrf rfl (by simpa using hn1) η (λj hj=>by omega) (t.reps.length+1) (by simp only[cN];omega);rw[hd0] at this;rw[eV (ci (P1 ht)),rJ];show t.qm.rf (t.reps.length+1) 0 [0]=_;rw[show(cN t.eqc 0).toNat=0 from rfl] at this;rw[this,hr,BF ht _ (Υ _)]
 congr 1
 unfold Mly.reps;omega
def Mly.minm (m:Mly):Mly:=m.T.qm
theorem xo {m:Mly}(hm:MOK m):CAN m.minm:=U6 (Ap hm) rfl (by rw[Mk hm,xZ];rfl)
theorem qX {m:Mly}(hm:MOK m)(w:List Int)(hw:∀ i:Nat,i<w.length→0≤w.getD i 0∧w.getD i 0<m.inp):(m.minm.go 0 w).2=(m.go m.st w).2:=by
 have ht:=Ap hm;have hn:=ht.n1;have hlen:=(gM ht).len;have h0:=jp ht 0 ω;simp only[iV,Bool.or_eq_false_iff,decide_eq_false_iff_not] at h0;have hz0:cN m.T.eqc 0=0:=rfl;have hf0:m.T.f 0=0:=by unfold Mly.f;show m.T.eqc.getD 0 0=0;omega
 have h1:=IK ht w 0 ω ω hw;rw[hf0] at h1;obtain⟨k,hk⟩:=oO hm;have h2:=(Cx hm (s:=m.st) (by rw[hk];simp) w hw).2.2;rw[Og hm] at h2;exact h1.trans h2
theorem Tl {a b:Mly}(ha:MOK a)(hb:MOK b)(hi:a.inp=b.inp):EQ2 a b a.st b.st↔EQ2 a.minm b.minm 0 0:=by
 constructor
 ·intro h w hw
  rw[qX ha w hw,qX hb w (by rw[← hi];exact hw)];exact h w hw
 ·intro h w hw
  rw[← qX ha w hw,← qX hb w (by rw[← hi];exact hw)];exact h w hw
theorem Kh {a b:Mly}(ha:MOK a)(hb:MOK b)(hi:a.inp=b.inp):EQ2 a b a.st b.st↔a.minm=b.minm:=by
 rw[Tl ha hb hi]
 constructor
 ·intro h
  obtain⟨e1,e2⟩:=Rd (xo ha) (xo hb) hi h;show(⟨a.inp,0,a.minm.nx,a.minm.ot⟩:Mly)=⟨b.inp,0,b.minm.nx,b.minm.ot⟩;rw[hi,e1,e2]
 ·intro h w _
  rw[h]
def Mly.qN (t:Mly)(k:Nat):List (List Int):=(eQ t.eqc k).map λs=>(t.nx.getD s []).map t.f
def Mly.qO (t:Mly)(k:Nat):List (List Int):=(eQ t.eqc k).map λs=>t.ot.getD s []
theorem SA (t:Mly)(k:Nat):(t.qN k).length=(eQ t.eqc k).length:=by simp[Mly.qN]
theorem QE (t:Mly)(k:Nat):(t.qO k).length=(eQ t.eqc k).length:=by simp[Mly.qO]
theorem vf {t:Mly}{k:Nat}(h:t.eqc.getD k 0=cN t.eqc k):t.qN (k+1)=t.qN k++[(t.nx.getD k []).map t.f]∧t.qO (k+1)=t.qO k++[t.ot.getD k []]:=by
 unfold Mly.qN Mly.qO;rw[sY h,List.map_append,List.map_append];exact⟨rfl,rfl⟩
theorem uT {t:Mly}{k:Nat}(h:¬t.eqc.getD k 0=cN t.eqc k):t.qN (k+1)=t.qN k∧t.qO (k+1)=t.qO k:=by
 unfold Mly.qN Mly.qO;rw[rZ h];exact⟨rfl,rfl⟩
def Mly.mres (m:Mly):Mly:=if aK m=0 then m.minm else⟨0,0,[],[]⟩
theorem sA {m:Mly}(h:¬aK m=0):m.mres=⟨0,0,[],[]⟩:=if_neg h
theorem D6 {m:Mly}(h:aK m=0):m.mres=m.trim.qm:=by unfold Mly.mres;rw[if_pos h,Jb h];rfl
def jI (a b:Mly):Int:=if aK a=0 then if aK b=0 then if a.inp=b.inp then 0 else 15 else aK b else aK a
theorem OF {a b:Mly}(h:jI a b=0):MOK a∧MOK b∧a.inp=b.inp:=by
 unfold jI at h;split at h
 ·rename_i h1
  split at h
  ·rename_i h2
   split at h
   ·rename_i h3;exact⟨fc h1,fc h2,h3⟩
   ·omega
  ·contradiction
 ·contradiction
def chm (a b:Mly)(k:Nat):Mly:=if k=0 then a else b
theorem Fv (a b:Mly){k:Nat}(h:k<2):((([AC.int .i64 a.inp,.int .i64 a.st,.list Γ a.nx,.list Γ a.ot,.int .i64 b.inp,.int .i64 b.st,.list Γ b.nx,.list Γ b.ot]:List AC).drop (k*4)).take 4)=
 [.int .i64 (chm a b k).inp,.int .i64 (chm a b k).st,.list Γ (chm a b k).nx,.list Γ (chm a b k).ot]:=by
 rcases(show k=0∨k=1 by omega) with rfl|rfl<;>rfl
def dqW (a b:Mly):Option (List Int):=if jI a b=0 then seS a b a.st b.st else none
theorem Cu {a b:Mly}(h:¬jI a b=0):dqW a b=none:=if_neg h
theorem H8 {a b:Mly}(h:jI a b=0):dqW a b=seS a b a.st b.st:=if_pos h
def eqQ (a b:Mly):Bool:=decide (jI a b=0)&& !(dqW a b).isSome
theorem Mq (c:List Int)(k:Nat):(eQ c k).length≤k:=by
 unfold eQ;exact Nat.le_trans (List.length_filter_le _ _) η
def mnB (m:Mly):Bool:=decide (aK m=0)&&(decide (m.reach.length=m.nx.length)&&decide (m.mres.nx.length=m.nx.length))
def jg (m:Mly):Int:=if ¬aK m=0 then aK m else if mnB m=true then 0 else 1
theorem UL {m:Mly}(h:¬aK m=0∨¬m.reach.length=m.nx.length):mnB m=false:=by
 unfold mnB;rcases h with h|h
 ·rw[decide_eq_false h];rfl
 ·rw[decide_eq_false h];simp
theorem UM {m:Mly}(h:aK m=0)(h2:m.reach.length=m.nx.length):mnB m=decide (m.mres.nx.length=m.nx.length):=by
 unfold mnB;rw[decide_eq_true h,decide_eq_true h2];rfl
def cAt (m:Mly)(t:Int):Int:=(m.cls m.nx.length).getD t.toNat 0
structure MO (m:Mly)(O:List Int):Prop where
 rng:∀ o∈O,0≤o∧o<m.nx.length
 cd:O.Pairwise λx y=>cAt m x≠cAt m y
theorem MO.nd {m:Mly}{O:List Int}(h:MO m O):O.Nodup:=h.cd.imp λh e=>h (by rw[e])
theorem MO.len {m:Mly}{O:List Int}(h:MO m O):O.length≤m.nx.length:=gz _ _ h.nd h.rng
def kTo (K:List J0)(o:Int):Int:=match K.find? (λk=>decide (k.1=o)) with|some k=>k.2.1|none=>0
def wdG (m:Mly)(T:List jH):Nat→Nat→Int→List Int×Nat
 |0,p,_=>([],p)
 |f+1,p,s=>if(T.getD p nd0).2.1<0 then([],p) else
  ((T.getD p nd0).2.1::(wdG m T f (kTo (T.getD p nd0).2.2.1 (m.out s (T.getD p nd0).2.1)).toNat (m.nxt s (T.getD p nd0).2.1)).1,(wdG m T f (kTo (T.getD p nd0).2.2.1 (m.out s (T.getD p nd0).2.1)).toNat (m.nxt s (T.getD p nd0).2.1)).2)
structure RTI (m:Mly)(T:List jH)(p:Nat)(s:Int):Prop where
 ex:∃ f ini cur n,rtF m T f p ini cur=some n∧s∈cur∧rp m cur
def Tq (m:Mly):List Int→List Int→List Int
 |l,[]=>l
 |l,a::w=>Tq m (vN m l a) w
def chW (m:Mly):List Int→List Int→Prop
 |_,[]=>True
 |l,a::w=>(unS m l a l.length=false∧smO m l a l.length=true)∧chW m (vN m l a) w
structure BFQ (m:Mly)(l:List Int)(Q:List SS):Prop where
 rt:0<Q.length∧Q.getD 0 ss0=(l,[])
 pt:∀ k,k<Q.length→chW m l (Q.getD k ss0).2∧(Q.getD k ss0).1=Tq m l (Q.getD k ss0).2∧Q0 m (Q.getD k ss0).2
 mo:∀ j k,j≤k→k<Q.length→(Q.getD j ss0).2.length≤(Q.getD k ss0).2.length
 nd:∀ j k,j<k→k<Q.length→(Q.getD j ss0).1≠(Q.getD k ss0).1
 le:Q.length≤4096
def clQ (m:Mly)(Q:List SS)(j:Nat)(b:Int):Prop:=unS m (Q.getD j ss0).1 b (Q.getD j ss0).1.length=false→smO m (Q.getD j ss0).1 b (Q.getD j ss0).1.length=true∧∃ k,k<Q.length∧(Q.getD k ss0).1=vN m (Q.getD j ss0).1 b∧(Q.getD k ss0).2.length≤(Q.getD j ss0).2.length+1
structure BFI (m:Mly)(l:List Int)(i a:Nat)(Q:List SS):Prop where
 q:BFQ m l Q
 cl:∀ j,j<i→∀ b:Nat,b<m.inp.toNat→clQ m Q j b
 pc:∀ b:Nat,b<a→clQ m Q i b
 up:∀ k,k<Q.length→i<Q.length→(Q.getD k ss0).2.length≤(Q.getD i ss0).2.length+1
end Go.AV
