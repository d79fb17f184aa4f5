/- Part of the proof. -/
import Derived.Test.YtiedpcchhicifaaGreatDoorW01
set_option linter.unusedSimpArgs false
set_option linter.unusedVariables false
set_option maxRecDepth 100000
set_option maxHeartbeats 4000000
open List renaming getElem?_eq_some_iff→Δ
open Nat renaming le_refl→Υ
namespace Go.AV
open Nat renaming reduceEqDiff→ad,reduceAdd→J,reduceLeDiff→ae,reduceLT→aj,reduceMul→af,reduceSub→ag
open List renaming set_cons_zero→bu,set_cons_succ→bV,getD_cons_zero→aI,length_append→aq,map_cons→aJ,cons_append→aG,map_nil→aV,length_cons→ax,nil_append→aC,take_succ_cons→cE,length_nil→aF,length_map→aE,length_replicate→aB,take_length→aP,mem_cons_self→ba,mem_cons_of_mem→aQ
open Int renaming toNat_natCast→az
structure MIN12 (m:Mly):Prop where
 rc:∀ s:Int,0≤s→s<m.nx.length→s∈m.reach
 ds:∀ s t:Int,0≤s→s<m.nx.length→0≤t→t<m.nx.length→EQV m s t→s=t
theorem Je (n:Nat):(rgI n).Nodup:=List.pairwise_map.2 (List.nodup_range.imp λ{a b} h e=>h ω)
theorem NA {n:Nat}{l:List Int}(hn:l.Nodup)(hr:∀ x,x∈l→0≤x∧x<n)(hl:l.length=n){s:Int}(h0:0≤s)(h1:s<n):s∈l:=by
 by_cases e:s∈l
 ·exact e
 ·exfalso
  have:=gz n (s::l) (List.nodup_cons.2 ⟨e,hn⟩) (λx hx=>by
   rcases List.mem_cons.1 hx with h|h
   ·rw[h];exact⟨h0,h1⟩
   ·exact hr x h)
  simp only[ax] at this;omega
theorem Ln {n:Nat}{l:List Int}(h:∀ s:Int,0≤s→s<n→s∈l):n≤l.length:=by
 have h1:=Je n;have h2:=ku (rgI n) l h1 λx hx=>by
  unfold rgI at hx;obtain⟨q,hq,rfl⟩:=List.mem_map.1 hx;have:=List.mem_range.1 hq;exact h _ ω ω
 rw[fK] at h2;exact h2
theorem CQ (t:Mly):t.reps.length≤t.nx.length:=by
 unfold Mly.reps eQ;exact Nat.le_trans (List.length_filter_le _ _) η
theorem TQ {t:Mly}(ht:MOK t)(h:t.reps.length=t.nx.length){s:Int}(h0:0≤s)(h1:s<t.nx.length):t.f s=s:=by
 have e:t.reps=List.range t.nx.length:=by
  unfold Mly.reps eQ at h⊢;refine List.filter_eq_self.2 ?_;refine List.length_filter_eq_length_iff.1 ?_;rw[h];simp
 have h2:=((jz ht).at_ s.toNat (by
  have:(eQ t.eqc t.nx.length).length=t.nx.length:=h;omega)).2
 have h3:(eQ t.eqc t.nx.length).getD s.toNat 0=s.toNat:=by
  have:eQ t.eqc t.nx.length=List.range t.nx.length:=e;rw[this];simp[List.getD,show s.toNat<t.nx.length by omega]
 rw[h3] at h2;show t.eqc.getD s.toNat 0=s;rw[h2];omega
theorem PQ {m:Mly}(hv:aK m=0):mnB m=true↔MIN12 m:=by
 have hm:=fc hv;have ht:=Ap hm;have hT:m.T.nx.length=m.reach.length:=xZ m;have hR:=gx hm;have hmr:m.mres.nx.length=m.T.reps.length:=by unfold Mly.mres;rw[if_pos hv];exact rJ m.T
 unfold mnB;rw[decide_eq_true hv,Bool.true_and,Bool.and_eq_true,decide_eq_true_eq,decide_eq_true_eq,hmr]
 constructor
 ·rintro⟨h1,h2⟩
  have hrc:∀ s:Int,0≤s→s<m.nx.length→s∈m.reach:=λs h0 h3=>NA hR.nd hR.rng h1 h0 h3;refine⟨hrc,λs t s0 s1 t0 t1 he=>?_⟩;have hs:=hrc s s0 s1;have htt:=hrc t t0 t1;have x1:=qk hm hs;have x2:=qk hm htt;have he2:EQV m.T (m.ix s) (m.ix t):=λw hw=>by
   rw[(Cx hm hs w hw).2.2,(Cx hm htt w hw).2.2];exact he w hw
  have h3:=(xY ht ω ω ω ω).2 he2;have f1:=TQ ht ω (s:=m.ix s) ω ω;have f2:=TQ ht ω (s:=m.ix t) ω ω;exact Jo hm hs htt (by
   rw[← f1,← f2];exact h3)
 ·intro h
  have h1:m.reach.length=m.nx.length:=Nat.le_antisymm hR.len (Ln h.rc);refine⟨h1,?_⟩;have hle:=CQ m.T;refine Nat.le_antisymm ω ?_;have hnd:((rgI m.nx.length).map m.T.f).Nodup:=by
   have h0:=Je m.nx.length;refine List.pairwise_map.2 (List.Pairwise.imp_of_mem (λ{a b} ha hb hne e=>hne ?_) h0);have ra:=kr.1 ha;have rb:=kr.1 hb;have he:=(xY ht (s:=a) (t:=b) ω ω ω ω).1 e;have ga:m.reach.getD a.toNat 0∈m.reach:=cP ω;have gb:m.reach.getD b.toNat 0∈m.reach:=cP ω;have ia:=rB hm (i:=a.toNat) ω;have ib:=rB hm (i:=b.toNat) ω;have he2:EQV m (m.reach.getD a.toNat 0) (m.reach.getD b.toNat 0):=λw hw=>by
    rw[← (Cx hm ga w hw).2.2,← (Cx hm gb w hw).2.2,ia,ib];rw[show((a.toNat:Nat):Int)=a by omega,show((b.toNat:Nat):Int)=b by omega];exact he w hw
   have r1:=hR.rng _ ga;have r2:=hR.rng _ gb;have:=h.ds _ _ r1.1 r1.2 r2.1 r2.2 he2;have:=tA hR.nd ω ω this;omega
  have:=gz m.T.reps.length _ hnd (λx hx=>by
   obtain⟨y,hy,rfl⟩:=List.mem_map.1 hx;have ry:=kr.1 hy;exact sj ht ω ω)
  rw[aE,fK] at this;exact this
structure MMI (m:Mly)(i:Nat)(p:List Int×List (List Int)):Prop where
 mo:MO m p.1
 rc:∀ o∈p.1,o∈m.reach
 st:m.st∈p.1
 ln:p.2.length=i
 le:i≤p.1.length
 cl:∀ j,j<i→∀ a:Nat,(a:Int)<m.inp→∃ o,o∈p.1∧cAt m o=cAt m (m.nxt (p.1.getD j 0) a)
def Tw:Nat→Nat→Nat
 |0,_=>0
 |k+1,c=>Tw k (c / 2)+c % 2
def Vl (k:Nat):Nat:=((List.range 256).filter λc=>decide (Tw 8 c=k)).length
def Mi:Nat→Nat
 |0=>0
 |k+1=>Mi k+Vl (k+1)
def TE (w:List Int):Nat:=if w=[] then 257 else 514
def Vx (ys ks:List Int):Nat:=(ks.map λo=>ys.count o).sum
def GO (T:List jH)(n:Nat)(D:List jH):Prop:=∀ i,i<D.length→T[n+i]? =D[i]?
def Tv (m:Mly)(x:jH):Prop:=x.2.1= -1→x.1.length=1∨∃ c,rp m c∧c.Nodup∧2≤c.length∧fdW m c=none
structure GOK (m:Mly)(ini cur w:List Int)(n:Nat)(D:List jH):Prop where
 len:D.length+TE w≤w.length+258*cur.length
 rt:∀ (T:List jH) (g:Nat),GO T n D→T.length+1≤g+n→rtF m T g n ini cur=some (n+D.length)
 lf:∀ x∈D,Tv m x
 dw:∀ (T:List jH),GO T n D→∀ (f:Nat) (s:Int),s∈cur→(wdG m T f n s).1.length≤w.length+Mi (cur.length-if w=[] then 0 else 1)
structure FOK (m:Mly)(ini cur:List Int)(a:Int)(w:List Int)(n i:Nat)(t:List jH×List J0):Prop where
 len:t.1.length+TE w*i≤w.length*i+258*Vx (ouL m cur a) ((tY (ouL m cur a)).take i)
 kl:t.2.length=i
 lf:∀ x∈t.1,Tv m x
 rt:∀ (T:List jH) (g:Nat),GO T (n+1) t.1→T.length+1≤g+(n+1)→∀ x:jH,x.2.1=a→(∀ j,j<i→x.2.2.1.getD j kd0=t.2.getD j kd0)→(List.range i).foldl (Tn m (rtF m T g) ini cur x) (some (n+1))=some (n+1+t.1.length)
 dw:∀ (T:List jH),GO T (n+1) t.1→∀ j,j<i→∃ e:Nat,t.2.getD j kd0=((tY (ouL m cur a)).getD j 0,(e:Int),())∧∀ (f:Nat) (s:Int),s∈N7 m cur a cur.length ((tY (ouL m cur a)).getD j 0)→(wdG m T f e s).1.length≤w.length+Mi ((N7 m cur a cur.length ((tY (ouL m cur a)).getD j 0)).length-if w=[] then 0 else 1)
def jh:List Int→List Int→Nat
 |a::v,b::w=>if a=b then jh v w+1 else 0
 |_,_=>0
def lh (e:S2):Int×(List Int×Unit):=(e.1,(e.2,()))
theorem si {l:List S2}{i:Nat}(h:i<l.length)(d:Int×(List Int×Unit)):(l.map lh).getD i d=((l.getD i eX0).1,((l.getD i eX0).2,())):=by
 simp[List.getD,h,lh]
theorem vK (l:List S2)(e:S2):d9 (l++[e])=d9 l++[e.1]:=by simp[d9]
theorem GL {n:Nat}{s:Int}(h0:0≤s)(h1:s<n):(List.replicate n false).set s.toNat true=fm n (d9 [(s,[])]):=by
 rw[yP,lU h0 h1];rfl
theorem MD {m:Mly}{e:S2}{l:List S2}{x:Nat}(h:(m.row e.1).getD x 0∈d9 (ep m e l x)):ep m e l (x+1)=ep m e l x:=by rw[ig,JP h]
theorem HM {m:Mly}{e:S2}{l:List S2}{x:Nat}(h:(m.row e.1).getD x 0∉d9 (ep m e l x))(h0:0≤(m.row e.1).getD x 0)(h1:(m.row e.1).getD x 0<m.nx.length):
 fm m.nx.length (d9 (ep m e l (x+1)))=(fm m.nx.length (d9 (ep m e l x))).set ((m.row e.1).getD x 0).toNat true∧
 (ep m e l (x+1)).map lh=(ep m e l x).map lh++[((m.row e.1).getD x 0,([e.2,[(x:Int)]].flatten,()))]:=by
 rw[ig];unfold stX;rw[if_neg h,vK,lU h0 h1,List.map_append];simp[lh]
theorem N6 {l:List S2}{k:Nat}(h:k<l.length):d9 (l.take (k+1))=d9 (l.take k)++[(l.getD k eX0).1]:=by
 rw[List.take_succ_eq_append_getElem h,vK];simp[List.getD,h]
theorem O8 {l:List S2}{k:Nat}(h:k<l.length):qG (l.take (k+1))=qG (l.take k)++[(l.getD k eX0).2]:=by
 rw[List.take_succ_eq_append_getElem h];unfold qG;rw[List.map_append];simp[List.getD,h]
def DT (m:Mly):List Int:=if aK m=0 then d9 m.exR else []
def cW (m:Mly):List (List Int):=if aK m=0 then qG m.exR else []
def dp (cf:List Int→List Int→Int)(xs:List (List Int)):List (List Int):=xs.mergeSort λx y=>!decide (cf y x<0)
def dg:List (List Int)→List (List Int)
 |[]=>[]
 |[x]=>[x]
 |x::y::r=>if x=y then dg (y::r) else x::dg (y::r)
def wsS (ws:List (List Int)):List (List Int):=dg (dp cJ ws)
def nY (ws:List (List Int)):Nat:=ws.foldl (λn w=>max n w.length) 0
theorem NZ {ws:List (List Int)}{k:Nat}(h:k<ws.length):nY (ws.take (k+1))=max (nY (ws.take k)) (ws.getD k []).length:=by
 unfold nY;rw[List.take_succ_eq_append_getElem h,List.foldl_append];simp[List.getD,h]
theorem Tj (a b:Nat):((max a b:Nat):Int)=max (a:Int) (b:Int):=ω
def ko (w:List Int)(j:Nat):List (List Int):=(List.range j).map fun(a:Nat)=>w++[(a:Int)]
def trO (ws:List (List Int))(n:Nat):List (List Int):=ws.flatMap λw=>ko w n
theorem Dr (w:List Int)(j:Nat):ko w (j+1)=ko w j++[[w,[(j:Int)]].flatten]:=by
 unfold ko;rw[List.range_succ,List.map_append];simp
theorem Ri {ws:List (List Int)}{n k:Nat}(h:k<ws.length):trO (ws.take (k+1)) n=trO (ws.take k) n++ko (ws.getD k []) n:=by
 unfold trO;rw[List.take_succ_eq_append_getElem h,List.flatMap_append];simp[List.getD,h]
theorem xi (w:List Int)(j:Nat):(ko w j).length=j:=by simp[ko]
theorem qc (n:Nat):∀ ws:List (List Int),(trO ws n).length=ws.length*n
 |[]=>by simp[trO]
 |w::ws=>by
  have ih:=qc n ws;unfold trO at ih⊢;rw[List.flatMap_cons,aq,ih,xi,ax,Nat.succ_mul];omega
theorem jY {m:Mly}(hm:MOK m):(cW m).length≤m.nx.length:=by
 unfold cW;rw[if_pos (ci hm),z6];exact(qJ hm).le
theorem nI {m:Mly}(hm:MOK m){w:List Int}(h:w∈cW m):w.length≤m.nx.length:=by
 unfold cW at h;rw[if_pos (ci hm)] at h;obtain⟨e,he,rfl⟩:=List.mem_map.1 h;have:=(qJ hm).wl e he;have:=(qJ hm).le;omega
def ef (m:Mly):List (List Int):=if aK m=0 then wsS (trO (cW m) m.inp.toNat) else []
theorem dn {ws:List (List Int)}{k:Nat}(h:k<ws.length):ws.getD k []∈ws:=by simp[List.getD,h]
theorem Rj {m:Mly}(hm:MOK m):∀ w,w∈trO (cW m) m.inp.toNat→w.length≤1000000:=λw h=>by
 unfold trO at h;obtain⟨u,hu,hw⟩:=List.mem_flatMap.1 h;obtain⟨a,_,rfl⟩:=List.mem_map.1 hw;have:=nI hm hu;have:=hm.n2;simp;omega
theorem lI:∀ (l:List (List Int)) (w:List Int),w∈dg l→w∈l
 |[],_,h=>h
 |[x],_,h=>h
 |x::y::r,w,h=>by
  simp only[dg] at h;split at h
  ·exact aQ _ (lI (y::r) w h)
  ·rcases List.mem_cons.1 h with h|h
   ·rw[h];exact ba ..
   ·exact aQ _ (lI (y::r) w h)
theorem o9:∀ l:List (List Int),(dg l).length≤l.length
 |[]=>Υ _
 |[x]=>Υ _
 |x::y::r=>by
  have ih:=o9 (y::r);simp only[dg];split
  ·simp only[ax] at ih⊢;omega
  ·simp only[ax] at ih⊢;omega
theorem j9 (cf:List Int→List Int→Int)(xs:List (List Int)):(dp cf xs).length=xs.length:=List.length_mergeSort _
theorem gP {cf:List Int→List Int→Int}{xs:List (List Int)}{w:List Int}:w∈dp cf xs↔w∈xs:=List.mem_mergeSort
def fG (ws:List (List Int)):List (List Int):=dg (dp dj ws)
theorem ED (ws:List (List Int)):(fG ws).length≤ws.length:=by
 have h:=o9 (dp dj ws);rw[j9] at h;exact h
theorem oP {ws:List (List Int)}{w:List Int}(h:w∈fG ws):w∈ws:=gP.1 (lI _ _ h)
def mxK (all:List (List Int))(k:Nat):Bool:=decide (k+1=all.length)|| !decide ((jh (all.getD (k+1) []) (all.getD k []):Int)=(all.getD k []).length)
def mxF (all:List (List Int))(k:Nat):List (List Int):=((List.range k).filter (mxK all)).map λi=>all.getD i []
theorem oI (all:List (List Int))(k:Nat):mxF all (k+1)=if mxK all k=true then mxF all k++[all.getD k []] else mxF all k:=by
 unfold mxF;rw[List.range_succ,List.filter_append,List.map_append]
 by_cases h:mxK all k=true
 ·rw[if_pos h];simp[h]
 ·rw[if_neg h];simp[h]
theorem BL (all:List (List Int))(k:Nat):(mxF all k).length≤k:=by
 unfold mxF;rw[aE];exact Nat.le_trans (List.length_filter_le _ _) η
theorem E6 {all:List (List Int)}{k:Nat}(hk:k≤all.length){w:List Int}(h:w∈mxF all k):w∈all:=by
 unfold mxF at h;obtain⟨i,hi,rfl⟩:=List.mem_map.1 h;have:=List.mem_range.1 (List.mem_filter.1 hi).1;exact dn ω
def mxS (ws:List (List Int)):List (List Int):=wsS (mxF (fG ws) (fG ws).length)
def pfB (v w:List Int):Bool:=decide ((cmn v w:Int)=w.length)
def pO (o:Int):Bool:=decide (o<0)||decide (1048576<o)
def prO (n:Int)(t:TRC):Int:=if ¬bQ t.1 n=0 then bQ t.1 n else if ¬t.2.1.length=t.1.length then 1 else if 0≤eK pO t.2.1 then 2 else 0
theorem vS {n:Int}{t:TRC}(h:¬bQ t.1 n=0):prO n t=bQ t.1 n:=if_pos h
theorem vt {n:Int}{t:TRC}(h:bQ t.1 n=0)(h2:¬t.2.1.length=t.1.length):prO n t=1:=by unfold prO;rw[if_neg (λk=>k h),if_pos h2]
theorem BK {n:Int}{t:TRC}(h:bQ t.1 n=0)(h2:t.2.1.length=t.1.length)(h3:0≤eK pO t.2.1):prO n t=2:=by unfold prO;rw[if_neg (λk=>k h),if_neg (λk=>k h2),if_pos h3]
theorem wn {n:Int}{t:TRC}(h:bQ t.1 n=0)(h2:t.2.1.length=t.1.length)(h3:¬0≤eK pO t.2.1):prO n t=0:=by unfold prO;rw[if_neg (λk=>k h),if_neg (λk=>k h2),if_neg h3]
def dfN (a b:TRC):Nat:=min (cmn a.1 b.1) (min a.2.1.length b.2.1.length)
def dfO (a b:TRC):Int:=if cmn (a.2.1.take (dfN a b)) (b.2.1.take (dfN a b))<dfN a b then(cmn (a.2.1.take (dfN a b)) (b.2.1.take (dfN a b)):Int) else-1
theorem QJ {n:Int}{t:TRC}(h:prO n t=0):bQ t.1 n=0∧t.2.1.length=t.1.length:=by
 by_cases h1:bQ t.1 n=0
 ·refine⟨h1,?_⟩
  rcases Decidable.em (t.2.1.length=t.1.length) with q|q
  ·exact q
  ·rw[vt h1 q] at h;cases h
 ·rw[vS h1] at h;exact absurd h h1
def gR (x y:Int):Int:=if x<y then-1 else if y<x then 1 else 0
def orI (a b:Int):Int:=if ¬a=0 then a else b
theorem nz {a b:List Int}{k:Nat}(hq:∀ q,q<k→a.getD q 0=b.getD q 0)(h1:k<a.length)(h2:k<b.length)(h:¬gR (a.getD k 0) (b.getD k 0)=0):dj a b=gR (a.getD k 0) (b.getD k 0):=by
 have hne:¬a.getD k 0=b.getD k 0:=λe=>h (by unfold gR;rw[if_neg ω,if_neg ω]);have hc:=jK hq ω ω (λh9=>hne h9.2.2);unfold dj gR;rw[hc]
 by_cases hl:a.getD k 0<b.getD k 0
 ·rw[if_neg ω,if_pos (.inr ⟨h2,hl⟩),if_pos hl]
 ·rw[if_neg ω,if_neg ω,if_neg hl,if_pos ω]
theorem kj {a b:List Int}(hq:∀ q,q<b.length→a.getD q 0=b.getD q 0)(h:b.length<a.length):dj a b=1:=by
 have hc:=jK hq ω ω ω;unfold dj;rw[hc,if_neg ω,if_neg ω]
theorem gh {a b:List Int}(hq:∀ q,q<a.length→a.getD q 0=b.getD q 0)(h:a.length≤b.length):dj a b=if a.length<b.length then-1 else 0:=by
 have hc:=jK hq ω ω ω;unfold dj;rw[hc]
 by_cases hl:a.length<b.length
 ·rw[if_neg ω,if_pos ω,if_pos hl]
 ·rw[if_pos ω,if_neg hl]
theorem Np {x y:Int}(h:gR x y=0):x=y:=by
 unfold gR at h;split at h
 ·omega
 ·split at h<;>omega
theorem IY (a b:List Int):orI (gR a.length b.length) (dj a b)=cJ a b:=by
 unfold orI cJ
 by_cases h1:a.length<b.length
 ·have e1:gR (a.length:Int) (b.length:Int)= -1:=if_pos ω
  rw[e1,if_pos δ,if_pos h1]
 ·by_cases h2:b.length<a.length
  ·have e1:gR (a.length:Int) (b.length:Int)=1:=by unfold gR;rw[if_neg ω,if_pos ω]
   rw[e1,if_pos δ,if_neg h1,if_pos h2]
  ·have e1:gR (a.length:Int) (b.length:Int)=0:=by unfold gR;rw[if_neg ω,if_neg ω]
   rw[e1,if_neg η,if_neg h1,if_neg h2]
def cmr (a b:List Int):Int:=match a,b with
 |[],[]=>0
 |[],_::_=>-1
 |_::_,[]=>1
 |x::a,y::b=>if x=y then cmr a b else if x<y then-1 else 1
theorem ew:∀ a b:List Int,dj a b=cmr a b
 |[],[]=>by simp[dj,cmn,cmr]
 |[],y::b=>by simp[dj,cmn,cmr]
 |x::a,[]=>by simp[dj,cmn,cmr]
 |x::a,y::b=>by
  have ih:=ew a b
  by_cases e:x=y
  ·subst e
   have h1:cmr (x::a) (x::b)=cmr a b:=by simp[cmr]
   rw[h1,← ih];have h2:cmn (x::a) (x::b)=cmn a b+1:=by simp[cmn]
   unfold dj;rw[h2];simp only[ax,List.getD_cons_succ]
   by_cases g1:cmn a b=a.length∧cmn a b=b.length
   ·rw[if_pos g1,if_pos ω]
   ·rw[if_neg g1,if_neg ω]
    by_cases g2:cmn a b=a.length∨(cmn a b<b.length∧a.getD (cmn a b) 0<b.getD (cmn a b) 0)
    ·rw[if_pos g2,if_pos (g2.imp (λh=>by omega) (λh=>⟨ω,h.2⟩))]
    ·rw[if_neg g2,if_neg (λh=>g2 (h.imp (λh=>by omega) (λh=>⟨ω,h.2⟩)))]
  ·have h2:cmn (x::a) (y::b)=0:=by simp[cmn,e]
   unfold dj;rw[h2];simp only[cmr,if_neg e,ax,aI];rw[if_neg ω]
   by_cases l:x<y
   ·rw[if_pos (.inr ⟨ω,l⟩),if_pos l]
   ·rw[if_neg (λh=>h.elim (λh=>by omega) (λh=>l h.2)),if_neg l]
theorem lF:∀ a b:List Int,cmr a b= -1∨cmr a b=0∨cmr a b=1
 |[],[]=>by simp[cmr]
 |[],_::_=>by simp[cmr]
 |_::_,[]=>by simp[cmr]
 |x::a,y::b=>by
  simp only[cmr];split
  ·exact lF a b
  ·split<;>simp
theorem lO:∀ {a b:List Int},cmr a b=0→a=b
 |[],[],_=>rfl
 |[],_::_,h=>by simp[cmr] at h
 |_::_,[],h=>by simp[cmr] at h
 |x::a,y::b,h=>by
  simp only[cmr] at h;split at h
  ·rename_i e;rw[e,lO h]
  ·split at h<;>cases h
theorem m5:∀ a:List Int,cmr a a=0
 |[]=>rfl
 |x::a=>by simp only[cmr,if_pos];exact m5 a
theorem qH:∀ a b:List Int,cmr b a= -cmr a b
 |[],[]=>rfl
 |[],_::_=>rfl
 |_::_,[]=>rfl
 |x::a,y::b=>by
  simp only[cmr]
  by_cases e:x=y
  ·subst e;rw[if_pos rfl,if_pos rfl];exact qH a b
  ·rw[if_neg (Ne.symm e),if_neg e]
   by_cases l:x<y
   ·rw[if_pos l,if_neg ω];rfl
   ·rw[if_neg l,if_pos ω]
theorem mj:∀ {a b c:List Int},cmr a b= -1→cmr b c= -1→cmr a c= -1
 |[],[],_,h,_=>by simp[cmr] at h
 |[],_::_,[],_,h=>by simp[cmr] at h
 |[],_::_,_::_,_,_=>rfl
 |_::_,[],_,h,_=>by simp[cmr] at h
 |_::_,_::_,[],_,h=>by simp[cmr] at h
 |x::a,y::b,z::c,h,k=>by
  simp only[cmr] at h k⊢
  by_cases e:x=y
  ·subst e
   rw[if_pos rfl] at h
   by_cases e2:x=z
   ·subst e2;rw[if_pos rfl] at k⊢;exact mj h k
   ·rw[if_neg e2] at k⊢;exact k
  ·rw[if_neg e] at h
   have l:x<y:=by
    rcases(show x<y∨y≤x by omega) with q|q
    ·exact q
    ·rw[if_neg ω] at h;cases h
   by_cases e2:y=z
   ·subst e2;rw[if_neg e,if_pos l]
   ·rw[if_neg e2] at k
    have l2:y<z:=by
     rcases(show y<z∨z≤y by omega) with q|q
     ·exact q
     ·rw[if_neg ω] at k;cases k
    rw[if_neg ω,if_pos ω]
theorem mR {a b:List Int}(h:cJ a b=0):a=b:=by
 unfold cJ at h;split at h
 ·cases h
 ·split at h
  ·cases h
  ·rw[ew] at h;exact lO h
theorem mf (a:List Int):cJ a a=0:=by
 unfold cJ;rw[if_neg ω,if_neg ω,ew,m5]
theorem rF (a b:List Int):cJ b a= -cJ a b:=by
 unfold cJ;rw[ew,ew,qH a b]
 by_cases h1:a.length<b.length
 ·rw[if_neg ω,if_pos h1,if_pos h1];rfl
 ·by_cases h2:b.length<a.length
  ·rw[if_pos h2,if_neg h1,if_pos h2]
  ·rw[if_neg h2,if_neg h1,if_neg h1,if_neg h2]
theorem gA {a b c:List Int}(h:cJ a b<0)(k:cJ b c<0):cJ a c<0:=by
 have e1:∀ {x y:List Int},cJ x y<0↔x.length<y.length∨(x.length=y.length∧cmr x y= -1):=λ{x y}=>by
  unfold cJ;rw[ew];have:=lF x y
  by_cases h1:x.length<y.length
  ·rw[if_pos h1];exact⟨λ_=>.inl h1,λ_=>by decide⟩
  ·rw[if_neg h1]
   by_cases h2:y.length<x.length
   ·rw[if_pos h2];exact⟨λh=>by omega,λh=>by omega⟩
   ·rw[if_neg h2];exact⟨λh=>.inr ⟨ω,ω⟩,λh=>by omega⟩
 rw[e1] at h k⊢;rcases h with h|⟨h,h'⟩
 ·rcases k with k|⟨k,_⟩<;>exact .inl ω
 ·rcases k with k|⟨k,k'⟩
  ·exact .inl ω
  ·exact .inr ⟨ω,mj h' k'⟩
theorem wU {v w:List Int}:pfB v w=true↔cmn v w=w.length:=by
 unfold pfB;rw[decide_eq_true_iff];omega
theorem Cf:∀ {v w:List Int},cmn v w=w.length↔w=v.take w.length
 |v,[]=>by cases v<;>simp[cmn]
 |[],_::_=>by simp[cmn]
 |x::v,y::w=>by
  have ih:=Cf (v:=v) (w:=w);simp only[cmn,ax,cE,List.cons.injEq]
  by_cases e:x=y
  ·rw[if_pos e]
   constructor
   ·intro h;exact⟨e.symm,ih.1 ω⟩
   ·intro h;rw[ih.2 h.2]
  ·rw[if_neg e]
   constructor
   ·intro h;omega
   ·intro h;exact absurd h.1.symm e
theorem m6 {v w:List Int}:pfB v w=true↔w=v.take w.length:=wU.trans Cf
theorem OD {v w:List Int}(h:pfB v w=true):w.length≤v.length:=by have:=BZ v w;have:=wU.1 h;omega
theorem z8 (v:List Int):pfB v v=true:=wU.2 (Aj v)
theorem Qo {v w:List Int}(h:pfB v w=true)(hl:v.length=w.length):v=w:=by
 have:=m6.1 h;rw[← hl,aP] at this;exact this.symm
theorem Gm {u v w:List Int}(h:pfB u v=true)(k:pfB v w=true):pfB u w=true:=by
 have h1:=m6.1 h;have k1:=m6.1 k;refine m6.2 ?_;have:=OD k;rw[h1,List.take_take,Nat.min_eq_left this] at k1;exact k1
def nH (X:List TRC)(t:TRC):Bool:=X.any λu=>decide (0≤dfO u t)
def kF (X:List TRC)(t:TRC):Bool:=X.any (λu=>pfB u.1 t.1)||decide (t.1.length=0)
def ju (X:List TRC)(t:TRC):List TRC:=X.filter λu=>!pfB t.1 u.1
def lz (X:List TRC)(t:TRC):List TRC:=X.takeWhile (λu=>decide (cJ u.1 t.1<0))++t::X.dropWhile (λu=>decide (cJ u.1 t.1<0))
def iU (X:List TRC)(t:TRC):List TRC:=if kF X t then X else lz (ju X t) t
def tR (n:Int)(X:List TRC)(t:TRC):Int:=if ¬prO n t=0 then prO n t else if nH X t then 13 else 0
def SRT (X:List TRC):Prop:=X.Pairwise λa b=>cJ a.1 b.1<0
def PFR (X:List TRC):Prop:=∀ u∈X,∀ v∈X,pfB u.1 v.1=true→u.1.length=v.1.length
theorem zw (X:List TRC)(t:TRC):(ju X t).length≤X.length:=List.length_filter_le ..
theorem F1 {α:Type}(p:α→Bool):∀ l:List α,(l.takeWhile p).length+(l.dropWhile p).length=l.length
 |[]=>rfl
 |a::l=>by
  have:=F1 p l
  by_cases h:p a=true
  ·simp only[List.takeWhile_cons,List.dropWhile_cons,if_pos h,ax];omega
  ·simp only[List.takeWhile_cons,List.dropWhile_cons,if_neg h,ax,aF];omega
theorem KO (X:List TRC)(t:TRC):(lz X t).length=X.length+1:=by
 unfold lz;have:=F1 (λu:TRC=>decide (cJ u.1 t.1<0)) X;rw[aq,ax];omega
theorem Lm (X:List TRC)(t:TRC):(iU X t).length≤X.length+1:=by
 unfold iU;split
 ·omega
 ·rw[KO];have:=zw X t;omega
def plc (X:List TRC)(t:TRC):Nat:=(X.takeWhile (λu=>decide (cJ u.1 t.1<0))).length
theorem J1 (X:List TRC)(t:TRC):plc X t≤X.length:=by
 unfold plc;have:=F1 (λu:TRC=>decide (cJ u.1 t.1<0)) X;omega
theorem OJ (X:List TRC)(t:TRC):X.take (plc X t)++t::X.drop (plc X t)=lz X t:=by
 have:∀ (p:TRC→Bool) (l:List TRC),l.take (l.takeWhile p).length=l.takeWhile p∧l.drop (l.takeWhile p).length=l.dropWhile p:=λp l=>by
  induction l with
  |nil=>exact⟨rfl,rfl⟩
  |cons a l ih=>
   by_cases h:p a=true
   ·simp only[List.takeWhile_cons,List.dropWhile_cons,if_pos h,ax,cE,List.drop_succ_cons]
    exact⟨by rw[ih.1],ih.2⟩
   ·simp only[List.takeWhile_cons,List.dropWhile_cons,if_neg h,aF,List.take_zero,List.drop_zero,and_self]
 unfold plc lz;rw[(this _ X).1,(this _ X).2]
theorem Rr {X:List TRC}{t:TRC}{k:Nat}(h:k<plc X t):cJ (X.getD k aT).1 t.1<0:=by
 induction X generalizing k with
 |nil=>exact absurd h (by simp[plc])
 |cons a X ih=>
  unfold plc at h
  by_cases q:cJ a.1 t.1<0
  ·simp only[List.takeWhile_cons,decide_eq_true q,if_true,ax] at h
   cases k with
   |zero=>exact q
   |succ k=>exact ih (by unfold plc;omega)
  ·simp only[List.takeWhile_cons,decide_eq_false q] at h
   simp at h
theorem Rz {X:List TRC}{t:TRC}(h:plc X t<X.length):¬cJ (X.getD (plc X t) aT).1 t.1<0:=by
 induction X with
 |nil=>simp at h
 |cons a X ih=>
  by_cases q:cJ a.1 t.1<0
  ·have e:plc (a::X) t=plc X t+1:=by unfold plc;simp only[List.takeWhile_cons,decide_eq_true q,if_true,ax]
   rw[e] at h⊢;exact ih (by simpa using h)
  ·have e:plc (a::X) t=0:=by unfold plc;simp only[List.takeWhile_cons,decide_eq_false q];rfl
   rw[e];exact q
theorem oc {X:List TRC}(hs:SRT X){i j:Nat}(hij:i<j)(hj:j<X.length):cJ (X.getD i aT).1 (X.getD j aT).1<0:=by
 have:=List.pairwise_iff_getElem.1 hs i j ω hj hij
 simpa [List.getD,show i<X.length by omega,hj] using this
theorem Qu {X:List TRC}{t:TRC}(hs:SRT X){i:Nat}(h:∀ k,k<i→cJ (X.getD k aT).1 t.1<0)(hi:i≤X.length)(h2:∀ k,i≤k→k<X.length→¬cJ (X.getD k aT).1 t.1<0):plc X t=i:=by
 rcases Nat.lt_trichotomy (plc X t) i with q|q|q
 ·exact absurd (h _ q) (Rz ω)
 ·exact q
 ·exact absurd (Rr q) (h2 i (Υ _) (by have:=J1 X t;omega))
theorem gL {X:List TRC}{t u:TRC}:u∈lz X t↔u=t∨u∈X:=by
 unfold lz;rw[List.mem_append,List.mem_cons];have:u∈X↔u∈X.takeWhile (λu=>decide (cJ u.1 t.1<0))∨u∈X.dropWhile (λu=>decide (cJ u.1 t.1<0)):=by
  rw[← List.mem_append,List.takeWhile_append_dropWhile]
 rw[this]
 constructor
 ·rintro(h|h|h)
  ·exact .inr (.inl h)
  ·exact .inl h
  ·exact .inr (.inr h)
 ·rintro(h|h|h)
  ·exact .inr (.inl h)
  ·exact .inl h
  ·exact .inr (.inr h)
theorem iE {X:List TRC}{t u:TRC}:u∈ju X t↔u∈X∧pfB t.1 u.1=false:=by
 unfold ju;rw[List.mem_filter];simp
theorem Mx {X:List TRC}{t:TRC}(hs:SRT X)(hne:∀ u∈X,u.1≠t.1):SRT (lz X t):=by
 induction X with
 |nil=>exact List.pairwise_singleton ..
 |cons a X ih=>
  obtain⟨h1,h2⟩:=List.pairwise_cons.1 hs
  by_cases q:cJ a.1 t.1<0
  ·have e:lz (a::X) t=a::lz X t:=by unfold lz;simp only[List.takeWhile_cons,List.dropWhile_cons,decide_eq_true q,if_true,aG]
   rw[e];refine List.pairwise_cons.2 ⟨λu hu=>?_,ih h2 λu hu=>hne u (aQ _ hu)⟩;rcases gL.1 hu with e|m
   ·rw[e];exact q
   ·exact h1 u m
  ·have e:lz (a::X) t=t::a::X:=by unfold lz;simp only[List.takeWhile_cons,List.dropWhile_cons,decide_eq_false q];rfl
   rw[e];have hta:cJ t.1 a.1<0:=by
    have h3:=rF a.1 t.1;have h4:¬cJ a.1 t.1=0:=λh=>hne a (ba ..) (mR h);omega
   refine List.pairwise_cons.2 ⟨λu hu=>?_,hs⟩;rcases List.mem_cons.1 hu with e|m
   ·rw[e];exact hta
   ·exact gA hta (h1 u m)
theorem AP {X:List TRC}{t:TRC}(h:kF X t=false):(∀ u∈X,pfB u.1 t.1=false)∧¬t.1.length=0:=by
 unfold kF at h;obtain⟨h1,h2⟩:=Bool.or_eq_false_iff.1 h;exact⟨λu hu=>by simpa using List.any_eq_false.1 h1 u hu,of_decide_eq_false h2⟩
theorem ME {X:List TRC}{t:TRC}(h:kF X t=false):∀ u∈X,u.1≠t.1:=λu hu e=>by
 have:=(AP h).1 u hu;rw[e,z8] at this;cases this
theorem Ev {X:List TRC}{t:TRC}(hs:SRT X):SRT (iU X t):=by
 unfold iU;split
 ·exact hs
 ·rename_i h
  have h':kF X t=false:=by simpa using h
  exact Mx (hs.filter _) λu hu=>ME h' u (iE.1 hu).1
theorem Pi {X:List TRC}{t:TRC}(hp:PFR X):PFR (iU X t):=by
 unfold iU;split
 ·exact hp
 ·rename_i h
  have h':kF X t=false:=by simpa using h
  intro u hu v hv hb;rcases gL.1 hu with e|hu
  ·subst e
   rcases gL.1 hv with e|hv
   ·rw[e]
   ·rw[(iE.1 hv).2] at hb;cases hb
  ·rcases gL.1 hv with e|hv
   ·rw[e,(AP h').1 u (iE.1 hu).1] at hb;cases hb
   ·exact hp u (iE.1 hu).1 v (iE.1 hv).1 hb
theorem Ep {X:List TRC}{t u:TRC}(h:u∈iU X t):u=t∨u∈X:=by
 unfold iU at h;split at h
 ·exact .inr h
 ·exact(gL.1 h).imp id λh=>(iE.1 h).1
def XK (X l:List TRC)(k:Nat):List TRC:=(l.take k).foldl iU X
def jm (n:Int)(X l:List TRC)(k:Nat):Int:=tR n (XK X l k) (l.getD k aT)
theorem MU (X l:List TRC):XK X l 0=X:=rfl
theorem kv {X l:List TRC}{k:Nat}(h:k<l.length):XK X l (k+1)=iU (XK X l k) (l.getD k aT):=by
 unfold XK;have e:l.take (k+1)=l.take k++[l.getD k aT]:=by rw[List.take_add_one,List.getElem?_eq_getElem h];simp[List.getD,h]
 rw[e,List.foldl_append];rfl
theorem v8 {X l:List TRC}:∀ {k:Nat},k≤l.length→(XK X l k).length≤X.length+k
 |0,_=>Υ _
 |k+1,h=>by rw[kv ω];have:=Lm (XK X l k) (l.getD k aT);have:=v8 (X:=X) (l:=l) (k:=k) ω;omega
structure OBI (n:Int)(X:List TRC):Prop where
 srt:SRT X
 pfr:PFR X
 pr:∀ u∈X,prO n u=0
theorem OBI.stp {n:Int}{X:List TRC}{t:TRC}(h:OBI n X)(ht:prO n t=0):OBI n (iU X t):=
 ⟨Ev h.srt,Pi h.pfr,λu hu=>(Ep hu).elim (λe=>by rw[e];exact ht) (h.pr u)⟩
theorem IN {n:Int}{X:List TRC}{t:TRC}(h:tR n X t=0):prO n t=0∧nH X t=false:=by
 unfold tR at h
 by_cases q:prO n t=0
 ·refine⟨q,?_⟩
  rw[if_neg (λk=>k q)] at h
  cases hb:nH X t with
  |false=>rfl
  |true=>rw[hb] at h;cases h
 ·rw[if_pos q] at h;exact absurd h q
theorem Sv {n:Int}{X:List TRC}{t:TRC}(h:¬prO n t=0):tR n X t=prO n t:=if_pos h
theorem OY {n:Int}{X:List TRC}{t:TRC}(h:prO n t=0)(h2:nH X t=true):tR n X t=13:=by unfold tR;rw[if_neg (λk=>k h),if_pos h2]
theorem DA {n:Int}{X:List TRC}{t:TRC}(h:prO n t=0)(h2:nH X t=false):tR n X t=0:=by unfold tR;rw[if_neg (λk=>k h),h2];rfl
theorem Hv {n:Int}{X l:List TRC}(h:OBI n X):∀ {k:Nat},k≤l.length→(∀ q,q<k→jm n X l q=0)→OBI n (XK X l k)
 |0,_,_=>h
 |k+1,hk,hq=>by
  rw[kv ω];exact(Hv h ω λq hq2=>hq q ω).stp (IN (hq k ω)).1
theorem OA {X:List TRC}{t:TRC}{k:Nat}(hk:k<X.length)(h:0≤dfO (X.getD k aT) t):nH X t=true:=
 List.any_eq_true.2 ⟨X.getD k aT,by simp[List.getD,hk],decide_eq_true h⟩
theorem C6 {X:List TRC}{t:TRC}(h:∀ q,q<X.length→¬0≤dfO (X.getD q aT) t):nH X t=false:=
 List.any_eq_false.2 λu hu=>by
  obtain⟨i,hi,e⟩:=List.getElem_of_mem hu;have:=h i hi;simp[List.getD,hi,e] at this
  simpa using this
def pL (X:List TRC)(t:TRC)(k:Nat):Bool:=(X.take k).any λu=>pfB u.1 t.1
theorem tV {X:List TRC}{t:TRC}{k:Nat}(h:k<X.length):pL X t (k+1)=(pL X t k||pfB (X.getD k aT).1 t.1):=by
 unfold pL;have e:X.take (k+1)=X.take k++[X.getD k aT]:=by rw[List.take_add_one,List.getElem?_eq_getElem h];simp[List.getD,h]
 rw[e,List.any_append];simp
theorem vA (X:List TRC)(t:TRC):kF X t=(pL X t X.length||decide (t.1.length=0)):=by unfold kF pL;rw[aP]
def jt (p:TRC→Bool)(xs:List TRC):Int:=match xs.findIdx? p with|some i=>(i:Int)|none=>-1
theorem Db {p:TRC→Bool}{xs:List TRC}{k:Nat}(hk:k<xs.length)(h:∀ q,q<k→p (xs.getD q aT)=false)(hp:p (xs.getD k aT)=true):jt p xs=k:=by
 unfold jt;have:xs.findIdx? p=some k:=by
  rw[List.findIdx?_eq_some_iff_getElem];refine⟨hk,by simpa [List.getD,hk] using hp,λj hj=>?_⟩;have:=h j hj
  simpa [List.getD,show j<xs.length by omega] using this
 rw[this]
theorem xS {p:TRC→Bool}{xs:List TRC}(h:∀ q,q<xs.length→p (xs.getD q aT)=false):jt p xs= -1:=by
 unfold jt;have:xs.findIdx? p=none:=by
  rw[List.findIdx?_eq_none_iff];intro x hx;obtain⟨i,hi,e⟩:=List.getElem_of_mem hx;have:=h i hi
  simpa [List.getD,hi,e] using this
 rw[this]
theorem pI (p:TRC→Bool)(xs:List TRC):(∃ k:Nat,jt p xs=(k:Int)∧k<xs.length∧(∀ q:Nat,q<k→p (xs.getD q aT)=false)∧p (xs.getD k aT)=true)∨(jt p xs= -1∧∀ q:Nat,q<xs.length→p (xs.getD q aT)=false):=by
 cases h:xs.findIdx? p with
 |none=>
  refine .inr ⟨by unfold jt;rw[h],λq hq=>?_⟩;have:=(List.findIdx?_eq_none_iff.1 h) xs[q] (List.getElem_mem hq)
  simpa [List.getD,hq] using this
 |some k=>
  obtain⟨h1,h2,h3⟩:=List.findIdx?_eq_some_iff_getElem.1 h;refine .inl ⟨k,by unfold jt;rw[h],h1,λq hq=>?_,by simpa [List.getD,h1] using h2⟩;have:=h3 q hq
  simpa [List.getD,show q<xs.length by omega] using this
theorem FJ {p:TRC→Bool}{xs:List TRC}(h:jt p xs= -1):xs.filter (λu=>!p u)=xs:=by
 rcases pI p xs with⟨k,e,_⟩|⟨_,h2⟩
 ·omega
 ·refine List.filter_eq_self.2 λx hx=>?_
  obtain⟨i,hi,e⟩:=List.getElem_of_mem hx;have:=h2 i hi;simp[List.getD,hi,e] at this;simp[this]
structure KEP (p:TRC→Bool)(xs R:List TRC)(i j:Nat):Prop where
 l:R.length=xs.length
 kk:R.take i=(xs.take j).filter λu=>!p u
 d:R.drop j=xs.drop j
 ij:i<j
 jl:j≤xs.length
theorem KEP.start {p:TRC→Bool}{xs:List TRC}{k:Nat}(h:jt p xs=(k:Int)):KEP p xs xs k (k+1):=by
 rcases pI p xs with⟨k',e,h1,h2,h3⟩|⟨e,_⟩
 ·have hkk:k'=k:=by omega
  rw[hkk] at h1 h2 h3;refine⟨rfl,?_,rfl,ω,ω⟩;have e:xs.take (k+1)=xs.take k++[xs.getD k aT]:=by rw[List.take_add_one,List.getElem?_eq_getElem h1];simp[List.getD,h1]
  have e2:(xs.take k).filter (λu=>!p u)=xs.take k:=by
   refine List.filter_eq_self.2 λx hx=>?_;obtain⟨i,hi,e⟩:=List.getElem_of_mem hx;rw[List.length_take] at hi;have:=h2 i ω;rw[List.getElem_take] at e;simp[List.getD,show i<xs.length by omega,e] at this;simp[this]
  rw[e,List.filter_append,e2,List.filter_cons,if_neg (by rw[h3];decide)];simp
 ·omega
theorem KEP.at_ {p:TRC→Bool}{xs R:List TRC}{i j:Nat}(h:KEP p xs R i j)(hj:j<xs.length):R.getD j aT=xs.getD j aT:=by
 have:=congrArg (λl=>l.getD 0 aT) h.d
 simpa [List.getD,List.getElem?_drop] using this
theorem KEP.no {p:TRC→Bool}{xs R:List TRC}{i j:Nat}(h:KEP p xs R i j)(hj:j<xs.length)(hp:p (xs.getD j aT)=true):KEP p xs R i (j+1):=by
 have e:xs.take (j+1)=xs.take j++[xs.getD j aT]:=by rw[List.take_add_one,List.getElem?_eq_getElem hj];simp[List.getD,hj]
 refine⟨h.l,?_,?_,by have:=h.ij;omega,ω⟩
 ·rw[e,List.filter_append,h.kk,List.filter_cons,if_neg (by rw[hp];decide)];simp
 ·have:=congrArg (List.drop 1) h.d
  rwa[List.drop_drop,List.drop_drop] at this
theorem KEP.yes {p:TRC→Bool}{xs R:List TRC}{i j:Nat}(h:KEP p xs R i j)(hj:j<xs.length)(hp:p (xs.getD j aT)=false):KEP p xs (R.set i (xs.getD j aT)) (i+1) (j+1):=by
 have e:xs.take (j+1)=xs.take j++[xs.getD j aT]:=by rw[List.take_add_one,List.getElem?_eq_getElem hj];simp[List.getD,hj]
 have hl:=h.l;have hij:=h.ij;refine⟨by rw[List.length_set];exact hl,?_,?_,ω,ω⟩
 ·rw[e,List.filter_append,← h.kk]
  have:(R.set i (xs.getD j aT)).take (i+1)=R.take i++[xs.getD j aT]:=by
   rw[List.take_add_one,List.take_set_of_le (Υ _)];simp[List.getElem?_set,show i<R.length by omega]
  rw[this];have hp':(!p (xs.getD j aT))=true:=by rw[hp];rfl
  rw[List.filter_cons,if_pos hp']
  rfl
 ·rw[List.drop_set_of_lt ω]
  have:=congrArg (List.drop 1) h.d;rwa[List.drop_drop,List.drop_drop] at this
theorem KEP.end_ {p:TRC→Bool}{xs R:List TRC}{i j:Nat}(h:KEP p xs R i j)(hj:j=xs.length):R.take i=xs.filter λu=>!p u:=by
 rw[h.kk,hj,aP]
def dlv (v:Nat)(xs:List TRC)(t:TRC):Nat:=if jt (λu=>pfB t.1 u.1) xs= -1 then v else v+1
def adv (v:Nat)(xs:List TRC)(t:TRC):Nat:=if kF xs t then v else dlv v xs t+1
theorem U9 {v:Nat}{xs:List TRC}{t:TRC}(h:jt (λu=>pfB t.1 u.1) xs= -1):dlv v xs t=v∧ju xs t=xs:=⟨if_pos h,FJ h⟩
theorem T7 {v:Nat}{xs:List TRC}{t:TRC}(h:¬jt (λu=>pfB t.1 u.1) xs= -1):dlv v xs t=v+1:=if_neg h
theorem UG {v:Nat}{xs:List TRC}{t:TRC}(h:kF xs t=true):adv v xs t=v∧iU xs t=xs:=⟨if_pos h,if_pos h⟩
theorem Rs {v:Nat}{xs:List TRC}{t:TRC}(h:kF xs t=false):adv v xs t=dlv v xs t+1∧iU xs t=(ju xs t).take (plc (ju xs t) t)++t::(ju xs t).drop (plc (ju xs t) t):=by
 refine⟨if_neg (by rw[h];decide),?_⟩;rw[OJ];exact if_neg (by rw[h];decide)
theorem PE {X:List TRC}{t:TRC}(hs:SRT X):SRT (ju X t):=hs.filter _
theorem xF {n:Int}{t:TRC}(h:prO n t=0):t.1.length≤1024∧t.2.1.length≤1024:=by
 obtain⟨h1,h2⟩:=QJ h;have:=(me h1).len;omega
theorem qS {X l:List TRC}:∀ {k:Nat},k≤l.length→∀ u∈XK X l k,u∈X∨∃ q,q<k∧u=l.getD q aT
 |0,_,u,hu=>.inl hu
 |k+1,hk,u,hu=>by
  rw[kv ω] at hu;rcases Ep hu with e|hu
  ·exact .inr ⟨k,ω,e⟩
  ·rcases qS (k:=k) ω u hu with h|⟨q,hq,e⟩
   ·exact .inl h
   ·exact .inr ⟨q,ω,e⟩
theorem IV {X l:List TRC}(hs:SRT X):∀ {k:Nat},k≤l.length→SRT (XK X l k)
 |0,_=>hs
 |k+1,hk=>by rw[kv ω];exact Ev (IV hs ω)
def LB (B:Nat)(X:List TRC):Prop:=∀ u∈X,u.1.length≤B∧u.2.1.length≤B
theorem TS {n:Int}{X l:List TRC}(h:LB 100000 X){k:Nat}(hk:k≤l.length)(hq:∀ q,q<k→jm n X l q=0):LB 100000 (XK X l k):=λu hu=>by
 rcases qS hk u hu with h1|⟨q,hq1,e⟩
 ·exact h u h1
 ·have:=xF (IN (hq q hq1)).1
  rw[e];omega
theorem LB.get {B:Nat}{X:List TRC}(h:LB B X){k:Nat}(hk:k<X.length){a b:List Int}(e:X.getD k aT=(a,(b,()))):a.length≤B∧b.length≤B:=by
 have:=h (X.getD k aT) (by simp[List.getD,hk]);rw[e] at this;exact this
def oa (n:Int)(X l:List TRC):Int:=dK (jm n X l) l.length
def u9 (n:Int)(X l:List TRC):List TRC:=if oa n X l=0 then XK X l l.length else X
theorem DO {n:Int}{X l:List TRC}{k:Nat}(hk:k<l.length)(hq:∀ q,q<k→jm n X l q=0)(hb:¬jm n X l k=0):oa n X l=jm n X l k∧u9 n X l=X:=by
 have e:oa n X l=jm n X l k:=bC hq hk hb;exact⟨e,if_neg (by rw[e];exact hb)⟩
theorem Te {n:Int}{X l:List TRC}(hq:∀ q,q<l.length→jm n X l q=0):oa n X l=0∧u9 n X l=XK X l l.length:=by
 have e:oa n X l=0:=bH hq;exact⟨e,if_pos e⟩
theorem DB {l:List TRC}{k:Nat}(h:k<l.length):l.take (k+1)=l.take k++[l.getD k aT]:=by rw[List.take_add_one,List.getElem?_eq_getElem h];simp[List.getD,h]
theorem DV {l:List Int}{n q:Nat}(h:q<n):(l.take n).getD q 0=l.getD q 0:=by simp[List.getD,List.getElem?_take_of_lt h]
theorem QP (a b:TRC):dfN a b≤a.2.1.length∧dfN a b≤b.2.1.length:=by unfold dfN;omega
theorem Rb {a b:TRC}(hq:∀ q,q<dfN a b→a.2.1.getD q 0=b.2.1.getD q 0):dfO a b= -1:=by
 have hl:=QP a b;have h1:cmn (a.2.1.take (dfN a b)) (b.2.1.take (dfN a b))=dfN a b:=jK (λq hq2=>by rw[DV ω,DV ω];exact hq q hq2) (by rw[List.length_take];omega) (by rw[List.length_take];omega) (λh=>by rw[List.length_take] at h;omega);unfold dfO;rw[h1,if_neg ω]
def fw (xs:List TRC):List TRC:=(dp dj (xs.map Prod.fst)).map λw=>(xs.find? λt=>t.1 == w).getD ([],([],()))
theorem OM {xs:List TRC}(hnd:(xs.map Prod.fst).Nodup){t:TRC}(h:t∈xs):xs.find? (λu=>u.1 == t.1)=some t:=by
 induction xs with
 |nil=>cases h
 |cons x xs ih=>
  rw[aJ,List.nodup_cons] at hnd;rw[List.find?_cons];rcases List.mem_cons.1 h with rfl|h2
  ·simp
  ·have hne:¬x.1=t.1:=λe=>hnd.1 (List.mem_map.2 ⟨t,h2,e.symm⟩)
   have:(x.1 == t.1)=false:=by simpa using hne
   rw[this];exact ih hnd.2 h2
theorem OZ {xs zs:List TRC}(hnd:(xs.map Prod.fst).Nodup)(hp:zs.Perm xs)(hs:zs.map Prod.fst=dp dj (xs.map Prod.fst)):zs=fw xs:=by
 unfold fw;rw[← hs,List.map_map];refine(List.map_id zs).symm.trans (List.map_congr_left λt ht=>?_);show t=(xs.find? (λu=>u.1 == t.1)).getD ([],([],()));rw[OM hnd (hp.mem_iff.1 ht)]
 rfl
structure FIT (T:List TRC):Prop where
 pos:0<T.length
 le:T.length≤10000
 nd:(T.map Prod.fst).Nodup
 lb:LB 100000 T
 pf:∀ u∈T,∀ v∈T,u.1≠v.1→pfB u.1 v.1=false
 df:∀ u∈T,∀ v∈T,¬0≤dfO u v
theorem oE (T:List TRC):(fw T).length=T.length:=by unfold fw;rw[aE,j9,aE]
theorem Kz {T:List TRC}{u:TRC}(h:u∈fw T):u∈T:=by
 unfold fw at h;obtain⟨w,hw,rfl⟩:=List.mem_map.1 h;obtain⟨t,ht,e⟩:=List.mem_map.1 (gP.1 hw)
 cases hf:T.find? (λu=>u.1 == w) with
 |none=>
  have:=List.find?_eq_none.1 hf t ht;simp[e] at this
 |some v=>exact List.mem_of_find?_eq_some hf
theorem Ke {T:List TRC}:(fw T).map Prod.fst=dp dj (T.map Prod.fst):=by
 unfold fw;rw[List.map_map];refine(List.map_congr_left λw hw=>?_).trans (List.map_id _);obtain⟨t,ht,e⟩:=List.mem_map.1 (gP.1 hw);show((T.find? λu=>u.1 == w).getD ([],([],()))).1=w
 cases hf:T.find? (λu=>u.1 == w) with
 |none=>
  have:=List.find?_eq_none.1 hf t ht;simp[e] at this
 |some v=>simpa using List.find?_some hf
theorem Pj {T:List TRC}(h:(T.map Prod.fst).Nodup){i j:Nat}(hi:i<T.length)(hj:j<T.length)(hij:i≠j):((fw T).getD i aT).1≠((fw T).getD j aT).1:=by
 have hn:((fw T).map Prod.fst).Nodup:=by
  rw[Ke];exact(List.mergeSort_perm _ _).nodup_iff.2 h
 have h1:i<(fw T).length:=by rw[oE];exact hi
 have h2:j<(fw T).length:=by rw[oE];exact hj
 intro e;have e2:((fw T).map Prod.fst)[i]'(by simpa using h1)=((fw T).map Prod.fst)[j]'(by simpa using h2):=by
  simpa [List.getD,h1,h2] using e
 have hp:=List.pairwise_iff_getElem.1 hn;rcases Nat.lt_or_gt_of_ne hij with q|q
 ·exact hp i j _ _ q e2
 ·exact hp j i _ _ q e2.symm
theorem DR {T:List TRC}{i:Nat}(h:i<T.length):(fw T).getD i aT∈T:=by
 refine Kz ?_;have:i<(fw T).length:=by rw[oE];exact h
 simp[List.getD,this]
theorem FIT.step {T:List TRC}(h:FIT T){k:Nat}(hk:k+1<T.length){x1 x2 y1 y2:List Int}(hx:(fw T).getD (k+1) aT=(x1,(x2,())))(hy:(fw T).getD k aT=(y1,(y2,()))):
 ((x1.length≤100000∧x2.length≤100000)∧(y1.length≤100000∧y2.length≤100000))∧pfB x1 y1=false∧¬0≤dfO (y1,(y2,())) (x1,(x2,())):=by
 have mx:=DR (T:=T) (i:=k+1) hk;have my:=DR (T:=T) (i:=k) ω;have hne:=Pj h.nd hk (show k<T.length by omega) ω;rw[hx] at mx hne;rw[hy] at my hne;exact⟨⟨h.lb _ mx,h.lb _ my⟩,h.pf _ mx _ my hne,h.df _ my _ mx⟩
theorem Kf {n:Int}{t:TRC}(h:prO n t=0):bQ t.1 n=0:=by
 unfold prO at h
 by_cases q:bQ t.1 n=0
 ·exact q
 ·rw[if_pos q] at h;exact h
theorem jk {T:List TRC}{k:Nat}(h:k<T.length):T.getD k aT∈T:=by simp[List.getD,h]
theorem xc {α β:Type}{f:α→β}{l:List α}{i:Nat}(d:α)(e:β)(h:i<l.length):(l.map f).getD i e=f (l.getD i d):=by simp[List.getD,h]
def Pw (m:Mly)(s t:Int):Prop:=aK m=0∧(0≤s∧s<m.nx.length)∧0≤t∧t<m.nx.length
instance (m:Mly)(s t:Int):Decidable (Pw m s t):=by unfold Pw;exact inferInstance
def stW (m:Mly)(s t:Int):Option (List Int):=if aK m=0∧(0≤s∧s<m.nx.length)∧0≤t∧t<m.nx.length then seS m m s t else none
def stE (m:Mly)(s t:Int):Int:=if aK m=0 then if(0≤s∧s<m.nx.length)∧0≤t∧t<m.nx.length then 0 else 2 else aK m
theorem F6 {l:List S3}{i:Nat}(h:i<l.length):l.getD i eS0∈l:=by simp[List.getD,h]
def nN (m:Mly)(s t:Int)(w:List Int):Bool:=!decide ((m.go s w).2=(m.go t w).2)
theorem xf {ws:List (List Int)}{p:List Int→Bool}{k:Nat}(h:k<ws.length)(hp:p (ws.getD k [])=true):ws.any p=true:=by
 refine List.any_eq_true.2 ⟨ws.getD k [],?_,hp⟩;simp[List.getD,h]
theorem zf {ws:List (List Int)}{p:List Int→Bool}(h:∀ q,q<ws.length→p (ws.getD q [])=false):ws.any p=false:=by
 refine List.any_eq_false.2 λw hw=>?_;obtain⟨i,hi,rfl⟩:=List.getElem_of_mem hw;have:=h i hi;simp[List.getD,hi] at this;simp[this]
theorem MF {m:Mly}(hm:MOK m)(hn:m.nx.length≤12){s t:Int}(hs:0≤s∧s<m.nx.length)(ht:0≤t∧t<m.nx.length):WOK ((stW m s t).getD []) m.inp∧((stW m s t).getD []).length≤145:=by
 unfold stW;rw[if_pos ⟨ci hm,hs,ht⟩]
 cases h:seS m m s t with
 |none=>exact⟨⟨η,λi hi=>by simp at hi⟩,η⟩
 |some w=>
  obtain⟨w1,w2,w3⟩:=wS h;have hl:w.length≤145:=zq (B:=144) hm hm rfl (Nat.le_trans (Nat.mul_le_mul hn hn) ω) _ _ _ (xd hs ht) w h;exact⟨⟨by simp;omega,w1⟩,hl⟩
def csN (m:Mly)(s t:Nat)(acc:List (List Int)):List (List Int):=if acc.any (nN m s t) then acc else acc++[(stW m s t).getD []]
def csT (m:Mly)(s:Nat):Nat→List (List Int)→List (List Int)
 |0,acc=>acc
 |k+1,acc=>csN m s (s+1+k) (csT m s k acc)
def csS (m:Mly):Nat→List (List Int)
 |0=>[]
 |s+1=>csT m s (m.nx.length-(s+1)) (csS m s)
def jw (m:Mly)(B:Nat)(acc:List (List Int)):Prop:=acc.length≤B∧∀ w,w∈acc→WOK w m.inp∧w.length≤145
theorem jw.mono {m:Mly}{B B':Nat}{acc:List (List Int)}(h:jw m B acc)(hb:B≤B'):jw m B' acc:=⟨Nat.le_trans h.1 hb,h.2⟩
theorem jw.next {m:Mly}(hm:MOK m)(hn:m.nx.length≤12){B s t:Nat}{acc:List (List Int)}(h:jw m B acc)(hs:s<m.nx.length)(ht:t<m.nx.length):jw m (B+1) (csN m s t acc):=by
 unfold csN;split
 ·exact h.mono (Nat.le_succ _)
 ·refine⟨by simp;exact h.1,λw hw=>?_⟩
  rcases List.mem_append.1 hw with hw|hw
  ·exact h.2 w hw
  ·simp at hw;subst hw;exact MF hm hn ⟨ω,ω⟩ ⟨ω,ω⟩
theorem jw.rows {m:Mly}(hm:MOK m)(hn:m.nx.length≤12){B s:Nat}{acc:List (List Int)}(h:jw m B acc)(hs:s<m.nx.length):∀ k,s+1+k≤m.nx.length→jw m (B+k) (csT m s k acc)
 |0,_=>h
 |k+1,hk=>(jw.rows hm hn h hs k ω).next hm hn hs ω
theorem jw.all {m:Mly}(hm:MOK m)(hn:m.nx.length≤12):∀ s,s≤m.nx.length→jw m (12*s) (csS m s)
 |0,_=>⟨by simp[csS],λw hw=>by simp[csS] at hw⟩
 |s+1,hs=>((jw.all hm hn s ω).rows hm hn ω (m.nx.length-(s+1)) ω).mono ω
theorem Oa {m:Mly}(h:jg m=0):MOK m:=by
 unfold jg at h;split at h
 ·contradiction
 ·rename_i h1
  exact fc (Decidable.not_not.1 h1)
def lp (m:Mly):List (List Int):=if jg m=0 then wsS (csS m m.nx.length) else []
def unk (n:Nat):List Int:=List.replicate n (-1)
theorem nC (n:Nat):(unk n).length=n:=aB
def pl (n k:Nat):List Int:=List.replicate k (-1)++List.replicate (n-k) 0
theorem Sc (n:Nat):pl n 0=List.replicate n 0:=by simp[pl]
theorem KP (n:Nat):pl n n=unk n:=by simp[pl,unk]
theorem KH {n k:Nat}(h:k≤n):(pl n k).length=n:=by simp[pl];omega
theorem Lw {n k:Nat}(h:k<n):(pl n k).set k (-1)=pl n (k+1):=by
 unfold pl;rw[List.set_append_right _ _ η];obtain⟨m,hm⟩:∃ m,n-k=m+1:=⟨n-k-1,ω⟩
 rw[hm,show n-(k+1)=m by omega];rw[aB,Nat.sub_self,List.replicate_succ,bu,List.replicate_succ',List.append_assoc]
 rfl
structure PK (m:Mly):Prop where
 i1:1≤m.inp
 i2:m.inp≤64
 n1:1≤m.nx.length
 n2:m.nx.length≤4096
 s1:0≤m.st
 s2:m.st<m.nx.length
 ol:m.ot.length=m.nx.length
 rl:∀ s,s<m.nx.length→((m.nx.getD s []).length:Int)=m.inp
 ql:∀ s,s<m.nx.length→((m.ot.getD s []).length:Int)=m.inp
 nr:∀ s a:Nat,s<m.nx.length→(a:Int)<m.inp→-1≤(m.nx.getD s []).getD a 0∧(m.nx.getD s []).getD a 0<m.nx.length
def addU (l:List Int)(t:Int):List Int:=if t= -1 then l else cw l t
def Mly.uf (m:Mly):Nat→Nat→List Int→List Int
 |0,_,l=>l
 |f+1,i,l=>if i<l.length then m.uf f (i+1) ((m.row (l.getD i 0)).foldl addU l) else l
def Mly.uo (m:Mly):List Int:=m.uf (m.nx.length+1) 0 [m.st]
def nbO (n:Nat)(od:List Int):List Int:=(List.range n).map fun(t:Nat)=>if(t:Int)∈od then(pos od (t:Int):Int) else-1
def Mly.rnN (m:Mly):List Int:=nbO m.nx.length m.uo
def nxC (nb:List Int)(t:Int):Int:=if t= -1 then-1 else nb.getD t.toNat 0
def otC (r o:List Int)(a:Nat):Int:=if r.getD a 0= -1 then-1 else o.getD a 0
def Mly.rnX (m:Mly):List (List Int):=m.uo.map λs=>(m.row s).map (nxC m.rnN)
def Mly.rnO (m:Mly):List (List Int):=m.uo.map λs=>(List.range (m.row s).length).map (otC (m.row s) (m.ot.getD s.toNat []))
def Mly.rnP (m:Mly):Mly:=⟨m.inp,0,m.rnX,m.rnO⟩
theorem rQ (l:List Int):addU l (-1)=l:=if_pos rfl
theorem vJ {l:List Int}{t:Int}(h:t∈l):addU l t=l:=by unfold addU;rw[gF h];split<;>rfl
theorem rT {l:List Int}{t:Int}(h:¬t= -1)(h2:t∉l):addU l t=l++[t]:=by unfold addU;rw[if_neg h,fg h2]
theorem yq {l:List Int}{t x:Int}:x∈addU l t↔x∈l∨(t≠-1∧x=t):=by
 unfold addU;split
 ·rename_i h;simp[h]
 ·rename_i h
  unfold cw;split
  ·rename_i h2
   constructor
   ·exact λhx=>.inl hx
   ·rintro(hx|⟨_,rfl⟩)
    ·exact hx
    ·exact h2
  ·simp[h]
theorem jq {r l:List Int}{j:Nat}(hj:j<r.length):(r.take (j+1)).foldl addU l=addU ((r.take j).foldl addU l) (r.getD j 0):=by
 rw[dx hj,List.foldl_append];rfl
theorem zt (l:List Int)(t:Int):∃ k,addU l t=l++k:=by
 unfold addU;split
 ·exact⟨[],η⟩
 ·unfold cw
  split
  ·exact⟨[],η⟩
  ·exact⟨[t],rfl⟩
theorem kB:∀ r l:List Int,∃ k,r.foldl addU l=l++k
 |[],l=>⟨[],η⟩
 |t::r,l=>by
  obtain⟨k,hk⟩:=zt l t;obtain⟨k2,hk2⟩:=kB r (addU l t);exact⟨k++k2,by rw[List.foldl_cons,hk2,hk,List.append_assoc]⟩
theorem RSet.addU {n:Nat}{l:List Int}(h:RSet n l){t:Int}(h0: -1≤t)(h1:t<n):RSet n (addU l t):=by
 unfold Go.AV.addU;split
 ·exact h
 ·exact h.add ω h1
theorem RSet.foldU {n:Nat}:∀ {r l:List Int},RSet n l→(∀ x,x∈r→-1≤x∧x<n)→RSet n (r.foldl Go.AV.addU l)
 |[],_,h,_=>h
 |t::r,l,h,hr=>by
  simp only[List.foldl_cons];exact RSet.foldU (h.addU (hr t η).1 (hr t η).2) λx hx=>hr x (by simp[hx])
theorem PK.row_rng {m:Mly}(hm:PK m){s:Int}(h0:0≤s)(h1:s<m.nx.length):∀ x,x∈m.row s→-1≤x∧x<m.nx.length:=by
 intro x hx;obtain⟨i,hi⟩:=List.getElem?_of_mem hx;have hl:=(Δ.1 hi).1;have:=hm.rl s.toNat ω;have h2:=hm.nr s.toNat i ω (by unfold Mly.row at hl;omega);have:(m.nx.getD s.toNat []).getD i 0=x:=by
  unfold Mly.row at hi;rw[List.getD,hi];rfl
 rw[this] at h2;exact h2
theorem PK.one {m:Mly}(h:PK m):RSet m.nx.length [m.st]:=⟨η,λx hx=>by simp at hx;subst hx;exact⟨h.s1,h.s2⟩⟩
theorem PK.tk {m:Mly}(hm:PK m){l:List Int}(h:RSet m.nx.length l){s:Int}(h0:0≤s)(h1:s<m.nx.length)(j:Nat):RSet m.nx.length (((m.row s).take j).foldl addU l):=
 h.foldU λx hx=>hm.row_rng h0 h1 x (List.mem_of_mem_take hx)
theorem AB (m:Mly)(f i:Nat)(l:List Int)(h:l.length≤i):m.uf f i l=l:=by
 cases f with
 |zero=>rfl
 |succ f=>simp only[Mly.uf];rw[if_neg ω]
theorem xr (m:Mly)(f i:Nat)(l:List Int)(h:i<l.length):m.uf (f+1) i l=m.uf f (i+1) ((m.row (l.getD i 0)).foldl addU l):=by
 simp only[Mly.uf];rw[if_pos h]
theorem PK.ufR {m:Mly}(h:PK m):∀ (f i:Nat) (l:List Int),RSet m.nx.length l→RSet m.nx.length (m.uf f i l)
 |0,_,_,hl=>hl
 |f+1,i,l,hl=>by
  simp only[Mly.uf];split
  ·rename_i hi
   have:=hl.at_ hi;exact PK.ufR h f (i+1) _ (hl.foldU (h.row_rng this.1 this.2))
  ·exact hl
theorem PK.uoR {m:Mly}(h:PK m):RSet m.nx.length m.uo:=h.ufR _ _ _ h.one
theorem o5 (n:Nat)(od:List Int):(nbO n od).length=n:=by simp[nbO]
theorem v4 {n:Nat}{od:List Int}{t:Int}(h0:0≤t)(h1:t<n):(nbO n od).getD t.toNat 0=if t∈od then(pos od t:Int) else-1:=by
 have h:t.toNat<n:=ω;have e:((t.toNat:Nat):Int)=t:=ω;simp only[nbO,List.getD,List.getElem?_map,List.getElem?_range h,Option.map_some,Option.getD_some,e]
theorem lN {n:Nat}{od:List Int}{t:Int}(h0:0≤t)(h1:t<n):(nbO n od).getD t.toNat 0= -1↔t∉od:=by
 rw[v4 h0 h1]
 constructor
 ·intro h h2;rw[if_pos h2] at h;omega
 ·intro h;rw[if_neg h]
theorem vY {n:Nat}{od:List Int}{t:Int}(h0:0≤t)(h1:t<n)(h2:t∉od):(nbO n od).set t.toNat (od.length:Int)=nbO n (od++[t]):=by
 apply List.ext_getElem
 ·simp[nbO]
 ·intro i h3 h4
  have hi:i<n:=by simpa [nbO] using h3
  simp only[nbO,List.getElem_set,List.getElem_map,List.getElem_range,List.mem_append,List.mem_singleton];split
  ·rename_i e
   have e2:(i:Int)=t:=ω;rw[if_pos (.inr e2),e2,rD h2]
  ·rename_i e
   have e2:¬(i:Int)=t:=ω
   by_cases hm:(i:Int)∈od
   ·rw[if_pos hm,if_pos (.inl hm),jr _ hm]
   ·rw[if_neg hm,if_neg (by rintro(h|h);exact hm h;exact e2 h)]
theorem Ms (n:Nat):nbO n []=List.replicate n (-1):=by
 apply List.ext_getElem<;>simp[nbO]
theorem LU {n:Nat}{s:Int}(h0:0≤s)(h1:s<n):(unk n).set s.toNat 0=nbO n [s]:=by
 have:=vY (od:=[]) h0 h1 η;rw[Ms] at this;exact this
def nxT (m:Mly)(s:Int)(j:Nat):List Int:=((m.row s).take j).map (nxC m.rnN)++List.replicate ((m.row s).length-j) (-1)
def otT (m:Mly)(s:Int)(j:Nat):List Int:=(List.range j).map (otC (m.row s) (m.ot.getD s.toNat []))++List.replicate ((m.row s).length-j) (-1)
theorem NU (m:Mly)(s:Int){j:Nat}(h:j≤(m.row s).length):(nxT m s j).length=(m.row s).length:=by
 unfold nxT;rw[aq,aE,List.length_take,aB];omega
theorem Qe (m:Mly)(s:Int){j:Nat}(h:j≤(m.row s).length):(otT m s j).length=(m.row s).length:=by
 unfold otT;rw[aq,aE,List.length_range,aB];omega
theorem UY (m:Mly)(s:Int):nxT m s 0=unk (m.row s).length:=by simp[nxT,unk]
theorem U8 (m:Mly)(s:Int):otT m s 0=unk (m.row s).length:=by simp[otT,unk]
theorem Nm (m:Mly)(s:Int):nxT m s (m.row s).length=(m.row s).map (nxC m.rnN):=by simp[nxT]
theorem Oc (m:Mly)(s:Int):otT m s (m.row s).length=(List.range (m.row s).length).map (otC (m.row s) (m.ot.getD s.toNat [])):=by simp[otT]
theorem pT {n:Nat}{x:Int}(h:0<n):List.replicate n x=x::List.replicate (n-1) x:=by
 obtain⟨m,rfl⟩:∃ m,n=m+1:=⟨n-1,ω⟩
 rfl
theorem ov {l:List Int}{n:Nat}{x y:Int}(h:0<n):(l++List.replicate n x).set l.length y=l++[y]++List.replicate (n-1) x:=by
 rw[List.set_append_right _ _ (Υ _),Nat.sub_self,pT h,bu];simp
theorem DX {m:Mly}{s:Int}{j:Nat}(h:j<(m.row s).length)(ht:(m.row s).getD j 0= -1):nxT m s (j+1)=nxT m s j:=by
 unfold nxT;rw[dx h,List.map_append,pT (n:=(m.row s).length-j) ω,List.append_assoc,show(m.row s).length-(j+1)=(m.row s).length-j-1 by omega,ht]
 rfl
theorem Eb {m:Mly}{s:Int}{j:Nat}(h:j<(m.row s).length)(ht:(m.row s).getD j 0= -1):otT m s (j+1)=otT m s j:=by
 unfold otT;rw[List.range_succ,List.map_append,pT (n:=(m.row s).length-j) ω,List.append_assoc,show(m.row s).length-(j+1)=(m.row s).length-j-1 by omega];simp only[aJ,aV,otC,if_pos ht]
 rfl
theorem En {m:Mly}{s:Int}{j:Nat}(h:j<(m.row s).length)(ht:¬(m.row s).getD j 0= -1):nxT m s (j+1)=(nxT m s j).set j (m.rnN.getD ((m.row s).getD j 0).toNat 0):=by
 unfold nxT;have hl:(((m.row s).take j).map (nxC m.rnN)).length=j:=by rw[aE,List.length_take];omega
 have:=ov (l:=((m.row s).take j).map (nxC m.rnN)) (n:=(m.row s).length-j) (x:=-1) (y:=m.rnN.getD ((m.row s).getD j 0).toNat 0) ω;rw[hl] at this;rw[this,dx h,List.map_append,show(m.row s).length-(j+1)=(m.row s).length-j-1 by omega];simp only[aJ,aV,nxC,if_neg ht]
theorem Ca {m:Mly}{s:Int}{j:Nat}(h:j<(m.row s).length)(ht:¬(m.row s).getD j 0= -1):otT m s (j+1)=(otT m s j).set j ((m.ot.getD s.toNat []).getD j 0):=by
 unfold otT;have:=ov (l:=(List.range j).map (otC (m.row s) (m.ot.getD s.toNat []))) (n:=(m.row s).length-j) (x:=-1) (y:=(m.ot.getD s.toNat []).getD j 0) ω;rw[aE,List.length_range] at this;rw[this,List.range_succ,List.map_append,show(m.row s).length-(j+1)=(m.row s).length-j-1 by omega];simp only[aJ,aV,otC,if_neg ht]
def qI (m:Mly)(k:Nat):List (List Int):=(m.uo.take k).map λs=>(m.row s).map (nxC m.rnN)
def qy (m:Mly)(k:Nat):List (List Int):=(m.uo.take k).map λs=>(List.range (m.row s).length).map (otC (m.row s) (m.ot.getD s.toNat []))
theorem G0 {m:Mly}{k:Nat}(h:k<m.uo.length):qI m (k+1)=qI m k++[(m.row (m.uo.getD k 0)).map (nxC m.rnN)]:=by unfold qI;rw[dx h,List.map_append];rfl
theorem FO {m:Mly}{k:Nat}(h:k<m.uo.length):qy m (k+1)=qy m k++[(List.range (m.row (m.uo.getD k 0)).length).map (otC (m.row (m.uo.getD k 0)) (m.ot.getD (m.uo.getD k 0).toNat []))]:=by unfold qy;rw[dx h,List.map_append];rfl
theorem Ks (m:Mly):qI m m.uo.length=m.rnX:=by unfold qI;rw[aP];rfl
theorem Lt (m:Mly):qy m m.uo.length=m.rnO:=by unfold qy;rw[aP];rfl
theorem Kw {m:Mly}{k:Nat}(h:k≤m.uo.length):(qI m k).length=k:=by simp[qI];omega
theorem KT {m:Mly}{k:Nat}(h:k≤m.uo.length):(qy m k).length=k:=by simp[qy];omega
def qs (es:List (KV×Int)):Nat→Int→Int
 |0,x=>x
 |f+1,x=>match bD es (.int x) with
  |some y=>qs es f y
  |none=>x
def bm (es:List (KV×Int))(x:Int):Int:=qs es (x.toNat+1) x
structure UPOK (n:Nat)(es:List (KV×Int)):Prop where
 at_:∀ p,p∈es→∃ x:Int,p.1= .int x∧0≤p.2∧p.2<x∧x<n
 nd:(es.map (·.1)).Nodup
theorem UPOK.nil (n:Nat):UPOK n []:=⟨λp h=>(by cases h),η⟩
theorem UPOK.look {n:Nat}{es:List (KV×Int)}(h:UPOK n es){x y:Int}(hl:bD es (.int x)=some y):0≤y∧y<x∧x<n:=by
 obtain⟨z,e,h1,h2,h3⟩:=h.at_ _ (nO hl);simp only[KV.int.injEq] at e;subst e;exact⟨h1,h2,h3⟩
theorem pW {es:List (KV×Int)}{f:Nat}{x y:Int}(h:bD es (.int x)=some y):qs es (f+1) x=qs es f y:=by simp only[qs,h]
theorem pK {es:List (KV×Int)}{f:Nat}{x:Int}(h:bD es (.int x)=none):qs es f x=x:=by
 cases f with
 |zero=>rfl
 |succ f=>simp only[qs,h]
theorem UPOK.fuel {n:Nat}{es:List (KV×Int)}(h:UPOK n es):∀ (f g:Nat) (x:Int),x.toNat<f→x.toNat<g→qs es f x=qs es g x
 |0,_,_,hf,_=>by omega
 |_+1,0,_,_,hg=>by omega
 |f+1,g+1,x,hf,hg=>by
  cases hl:bD es (.int x) with
  |none=>rw[pK hl,pK hl]
  |some y=>
   have:=h.look hl;rw[pW hl,pW hl];exact h.fuel f g y ω ω
theorem UPOK.step {n:Nat}{es:List (KV×Int)}(h:UPOK n es){x y:Int}(hl:bD es (.int x)=some y):bm es x=bm es y:=by
 have:=h.look hl;unfold bm;rw[pW hl];exact h.fuel _ _ y ω ω
theorem dJ {es:List (KV×Int)}{x:Int}(hl:bD es (.int x)=none):bm es x=x:=pK hl
theorem UPOK.le {n:Nat}{es:List (KV×Int)}(h:UPOK n es):∀ (k:Nat) (x:Int),x.toNat≤k→0≤x→0≤bm es x∧bm es x≤x∧bD es (.int (bm es x))=none
 |k,x,hk,h0=>by
  cases hl:bD es (.int x) with
  |none=>rw[dJ hl];exact⟨h0,Int.le_refl _,hl⟩
  |some y=>
   have h2:=h.look hl;rw[h.step hl]
   cases k with
   |zero=>omega
   |succ k=>
    have:=h.le k y ω h2.1;exact⟨this.1,ω,this.2.2⟩
theorem UPOK.rep {n:Nat}{es:List (KV×Int)}(h:UPOK n es){x:Int}(h0:0≤x):0≤bm es x∧bm es x≤x∧bD es (.int (bm es x))=none:=h.le _ x (Υ _) h0
theorem jf {es:List (KV×Int)}(k:KV)(v:Int)(k2:KV):bD (f0 es k v) k2=if k2=k then some v else bD es k2:=by
 unfold f0;split
 ·rename_i hs
  have key:∀ l:List (KV×Int),bD (l.map λp=>if p.1=k then(k,v) else p) k2=if k2=k then(bD l k).map λ_=>v else bD l k2:=by
   intro l
   induction l with
   |nil=>simp[bD]
   |cons p l ih=>
    simp only[aJ,bD]
    by_cases h1:p.1=k
    ·by_cases h2:k2=k
     ·simp[h1,h2]
     ·have h3:¬k=k2:=λe=>h2 e.symm
      have h4:¬p.1=k2:=by rw[h1];exact h3
      simp only[h1,if_true,h3,if_false,h2] at ih⊢;exact ih
    ·by_cases h2:k2=k
     ·subst h2
      simp only[h1,if_false,if_true] at ih⊢;exact ih
     ·simp only[h1,if_false,h2] at ih⊢
      rw[ih]
  rw[key];split
  ·obtain⟨x,hx⟩:=Option.isSome_iff_exists.1 hs
   rw[hx];rfl
  ·rfl
 ·rename_i hs
  have hn:bD es k=none:=by cases h:bD es k with|none=>rfl|some x=>rw[h] at hs;exact absurd rfl hs
  have key:∀ l:List (KV×Int),bD l k=none→bD (l++[(k,v)]) k2=if k2=k then some v else bD l k2:=by
   intro l
   induction l with
   |nil=>
    intro _
    by_cases h2:k2=k
    ·simp[bD,h2]
    ·have h3:¬k=k2:=λe=>h2 e.symm
     simp[bD,h2,h3]
   |cons p l ih=>
    intro hl;simp only[bD] at hl
    by_cases h1:p.1=k
    ·simp[h1] at hl
    ·simp only[h1,if_false] at hl
     simp only[aG,bD];rw[ih hl]
     by_cases h2:k2=k
     ·subst h2;simp[h1]
     ·simp[h2]
  exact key es hn
theorem UPOK.put {n:Nat}{es:List (KV×Int)}(h:UPOK n es){x y:Int}(h0:0≤x)(h1:x<y)(h2:y<n):UPOK n (f0 es (.int y) x):=by
 refine⟨λp hp=>?_,kO h.nd⟩;have key:bD (f0 es (.int y) x) p.1=some p.2:=mD (kO h.nd) hp;rw[jf] at key;split at key
 ·rename_i e
  simp only[Option.some.injEq] at key;exact⟨y,e,ω,ω,h2⟩
 ·exact h.at_ _ (nO key)
theorem rI {es:List (KV×Int)}{k:KV}{v:Int}(h:bD es k=none):(f0 es k v).length=es.length+1:=by
 unfold f0;rw[if_neg (by rw[h];simp)];simp
theorem Ck {n:Nat}{es:List (KV×Int)}(h:UPOK n es){x y:Int}(h0:0≤x)(h1:x<y)(h2:y<n)(hx:bD es (.int x)=none)(hy:bD es (.int y)=none):∀ (k:Nat) (z:Int),z.toNat≤k→0≤z→
 bm (f0 es (.int y) x) z=if bm es z=y then x else bm es z
 |k,z,hk,hz=>by
  have hp:=h.put h0 h1 h2
  by_cases e:z=y
  ·subst e
   rw[hp.step (y:=x) (by rw[jf,if_pos rfl]),dJ (es:=es) hy,if_pos rfl];refine dJ ?_;rw[jf,if_neg (by simp only[KV.int.injEq];omega)];exact hx
  ·have hl:bD (f0 es (.int y) x) (.int z)=bD es (.int z):=by rw[jf,if_neg (by simp only[KV.int.injEq];exact e)]
   cases hm:bD es (.int z) with
   |none=>
    rw[dJ (hl.trans hm),dJ hm,if_neg e]
   |some w=>
    have hw:=h.look hm;rw[hp.step (hl.trans hm),h.step hm]
    cases k with
    |zero=>omega
    |succ k=>exact Ck h h0 h1 h2 hx hy k w ω hw.1
structure FST where
 nx:List (List Int)
 ot:List (List Int)
 up:List (KV×Int)
 wk:List (Int×(Int×Unit))
@[reducible] def foE (l:List (List Int))(x a:Nat):Int:=(l.getD x []).getD a 0
def foS (l:List (List Int))(x a:Nat)(v:Int):List (List Int):=l.set x ((l.getD x []).set a v)
def foA (x y:Nat)(s:FST)(a:Nat):Option FST:=
 if foE s.nx y a= -1 then some s
 else if foE s.nx x a= -1 then some {s with nx:=foS s.nx x a (foE s.nx y a),ot:=foS s.ot x a (foE s.ot y a)}
 else if foE s.ot x a≠foE s.ot y a then none
 else some {s with wk:=s.wk++[(foE s.nx x a,(foE s.nx y a,()))]}
def foR (x y:Nat)(s:FST):Nat→Option FST
 |0=>some s
 |a+1=>(foR x y s a).bind λs=>foA x y s a
def foU (s:FST):Int:=bm s.up (s.wk.getD 0 (0,(0,()))).1
def foV (s:FST):Int:=bm s.up (s.wk.getD 0 (0,(0,()))).2.1
def foJ (s:FST):FST:={s with wk:=s.wk.drop 1,up:=f0 s.up (.int (max (foU s) (foV s))) (min (foU s) (foV s))}
def dr (inp:Nat)(s:FST):Option FST:=
 if foU s=foV s then some {s with wk:=s.wk.drop 1} else foR (min (foU s) (foV s)).toNat (max (foU s) (foV s)).toNat (foJ s) inp
def gi (inp:Nat):Nat→FST→Option FST
 |0,_=>none
 |f+1,s=>if s.wk=[] then some s else(dr inp s).bind (gi inp f)
def mX (n:Nat)(s:FST):Nat:=(n-s.up.length)*65+s.wk.length
structure WI (n inp:Nat)(s:FST):Prop where
 nl:s.nx.length=n
 ol:s.ot.length=n
 rl:∀ i,i<n→(s.nx.getD i []).length=inp
 ql:∀ i,i<n→(s.ot.getD i []).length=inp
 nr:∀ i a,i<n→a<inp→-1≤foE s.nx i a∧foE s.nx i a<n
 uo:UPOK n s.up
 wr:∀ p,p∈s.wk→(0≤p.1∧p.1<n)∧0≤p.2.1∧p.2.1<n
theorem fU {l:List (List Int)}{x a:Nat}{v:Int}{i b:Nat}(hx:x<l.length)(ha:a<(l.getD x []).length):foE (foS l x a v) i b=if i=x∧b=a then v else foE l i b:=by
 unfold foE foS
 by_cases h:i=x
 ·subst h
  have:(l.set i ((l.getD i []).set a v)).getD i []=(l.getD i []).set a v:=by simp[List.getD,hx]
  rw[this]
  by_cases h2:b=a
  ·subst h2
   rw[if_pos ⟨rfl,rfl⟩]
   generalize l.getD i []=r at ha⊢
   simp[List.getD,ha]
  ·rw[if_neg (λh=>h2 h.2)]
   generalize l.getD i []=r at ha⊢
   simp only[List.getD];rw[List.getElem?_set_ne (λe=>h2 e.symm)]
 ·rw[if_neg (λh2=>h h2.1)]
  have:(l.set x ((l.getD x []).set a v)).getD i []=l.getD i []:=by
   simp only[List.getD];rw[List.getElem?_set_ne (λe=>h e.symm)]
  rw[this]
theorem cM (l:List (List Int))(x a:Nat)(v:Int):(foS l x a v).length=l.length:=by simp[foS]
theorem nR {l:List (List Int)}{x a i:Nat}{v:Int}:((foS l x a v).getD i []).length=(l.getD i []).length:=by
 unfold foS
 by_cases h:i=x
 ·subst h
  by_cases hx:i<l.length
  ·have:(l.set i ((l.getD i []).set a v)).getD i []=(l.getD i []).set a v:=by simp[List.getD,hx]
   rw[this,List.length_set]
  ·rw[List.set_eq_of_length_le ω]
 ·have:(l.set x ((l.getD x []).set a v)).getD i []=l.getD i []:=by
   simp only[List.getD];rw[List.getElem?_set_ne (λe=>h e.symm)]
  rw[this]
theorem WI.foA {n inp:Nat}{s s':FST}(h:WI n inp s){x y a:Nat}(hx:x<n)(hy:y<n)(ha:a<inp)(e:foA x y s a=some s'):
 WI n inp s'∧s'.up=s.up∧s'.wk.length≤s.wk.length+1:=by
 have hrx:=h.rl x hx;have hqx:=h.ql x hx;have hy2:=h.nr y a hy ha;have hx2:=h.nr x a hx ha;unfold Go.AV.foA at e;split at e
 ·cases e;exact⟨h,rfl,ω⟩
 ·rename_i h1
  split at e
  ·cases e
   refine⟨⟨?_,?_,λi hi=>?_,λi hi=>?_,λi b hi hb=>?_,h.uo,h.wr⟩,rfl,η⟩
   ·rw[cM];exact h.nl
   ·rw[cM];exact h.ol
   ·rw[nR];exact h.rl i hi
   ·rw[nR];exact h.ql i hi
   ·rw[fU (by rw[h.nl];exact hx) ω]
    split
    ·exact hy2
    ·exact h.nr i b hi hb
  ·rename_i h2
   split at e
   ·cases e
   ·cases e
    refine⟨⟨h.nl,h.ol,h.rl,h.ql,h.nr,h.uo,λp hp=>?_⟩,rfl,η⟩;rcases List.mem_append.1 hp with hp|hp
    ·exact h.wr p hp
    ·simp at hp;subst hp
     exact⟨⟨by show 0≤foE s.nx x a;omega,hx2.2⟩,by show 0≤foE s.nx y a;omega,hy2.2⟩
theorem WI.foR {n inp:Nat}{s:FST}(h:WI n inp s){x y:Nat}(hx:x<n)(hy:y<n):∀ (a:Nat) {s':FST},a≤inp→foR x y s a=some s'→WI n inp s'∧s'.up=s.up∧s'.wk.length≤s.wk.length+a
 |0,s',_,e=>by cases e;exact⟨h,rfl,ω⟩
 |a+1,s',ha,e=>by
  simp only[Go.AV.foR] at e
  cases e1:Go.AV.foR x y s a with
  |none=>rw[e1] at e;cases e
  |some s1=>
   rw[e1] at e;obtain⟨h1,h2,h3⟩:=h.foR hx hy a ω e1;obtain⟨k1,k2,k3⟩:=h1.foA hx hy ω e;exact⟨k1,k2.trans h2,ω⟩
theorem WI.uv {n inp:Nat}{s:FST}(h:WI n inp s)(h0:0<s.wk.length):(0≤foU s∧foU s<n)∧0≤foV s∧foV s<n:=by
 have hm:=h.wr _ (show s.wk.getD 0 (0,(0,()))∈s.wk by
  cases hw:s.wk with
  |nil=>rw[hw] at h0;simp at h0
  |cons p r=>simp[List.getD])
 have h1:=h.uo.rep hm.1.1;have h2:=h.uo.rep hm.2.1;unfold foU foV;omega
theorem WI.drop {n inp:Nat}{s:FST}(h:WI n inp s):WI n inp {s with wk:=s.wk.drop 1}:=⟨h.nl,h.ol,h.rl,h.ql,h.nr,h.uo,λp hp=>h.wr p (List.mem_of_mem_drop hp)⟩
theorem WI.foJ {n inp:Nat}{s:FST}(h:WI n inp s)(h0:0<s.wk.length)(hne:¬foU s=foV s):WI n inp (foJ s):=by
 have huv:=h.uv h0;exact⟨h.nl,h.ol,h.rl,h.ql,h.nr,h.uo.put ω ω ω,λp hp=>h.wr p (List.mem_of_mem_drop hp)⟩
theorem WI.fresh {n inp:Nat}{s:FST}(h:WI n inp s)(h0:0<s.wk.length):bD s.up (.int (foU s))=none∧bD s.up (.int (foV s))=none:=by
 have hm:=h.wr _ (show s.wk.getD 0 (0,(0,()))∈s.wk by
  cases hw:s.wk with
  |nil=>rw[hw] at h0;simp at h0
  |cons p r=>simp[List.getD])
 exact⟨(h.uo.rep hm.1.1).2.2,(h.uo.rep hm.2.1).2.2⟩
theorem WI.fresh2 {n inp:Nat}{s:FST}(h:WI n inp s)(h0:0<s.wk.length):bD s.up (.int (max (foU s) (foV s)))=none∧bD s.up (.int (min (foU s) (foV s)))=none:=by
 have hf:=h.fresh h0
 by_cases e:foU s≤foV s
 ·rw[Int.max_eq_right e,Int.min_eq_left e];exact⟨hf.2,hf.1⟩
 ·rw[Int.max_eq_left ω,Int.min_eq_right ω];exact hf
theorem rM {n:Nat}{es:List (KV×Int)}(h:UPOK n es)(h1:1≤n):es.length<n:=by
 have key:∀ (N:Nat) (ks:List KV),ks.Nodup→(∀ k,k∈ks→∃ x:Int,k= .int x∧0<x∧x≤N)→ks.length≤N:=by
  intro N
  induction N with
  |zero=>
   intro ks _ hk
   cases ks with
   |nil=>simp
   |cons k r=>obtain⟨x,_,h1,h2⟩:=hk k η;omega
  |succ N ih=>
   intro ks hn hk;have h1:(ks.erase (.int ((N+1:Nat):Int))).length≤N:=by
    refine ih _ (hn.erase _) λk hk2=>?_;rw[hn.mem_erase_iff] at hk2;obtain⟨x,e,h3,h4⟩:=hk k hk2.2;refine⟨x,e,h3,?_⟩;have:x≠((N+1:Nat):Int):=λe2=>hk2.1 (by rw[e,e2]);omega
   have:ks.length≤(ks.erase (.int ((N+1:Nat):Int))).length+1:=by
    rw[List.length_erase];split<;>omega
   omega
 have:=key (n-1) (es.map (·.1)) h.nd λk hk=>by
  obtain⟨p,hp,rfl⟩:=List.mem_map.1 hk;obtain⟨x,e,h2,h3,h4⟩:=h.at_ p hp;exact⟨x,e,ω,ω⟩
 rw[aE] at this;omega
theorem WI.step {n inp:Nat}{s s':FST}(h:WI n inp s)(hi:inp≤64)(h0:0<s.wk.length)(e:dr inp s=some s'):WI n inp s'∧mX n s'<mX n s:=by
 unfold dr at e;split at e
 ·cases e
  refine⟨h.drop,?_⟩;unfold mX;simp only[List.length_drop];omega
 ·rename_i hne
  have huv:=h.uv h0;have hb:=h.foJ h0 hne;obtain⟨h1,h2,h3⟩:=hb.foR (x:=(min (foU s) (foV s)).toNat) (y:=(max (foU s) (foV s)).toNat) ω ω inp (Υ _) e;refine⟨h1,?_⟩;have hl:(Go.AV.foJ s).up.length=s.up.length+1:=rI (h.fresh2 h0).1;have hk:=rM hb.uo ω;have hw:(Go.AV.foJ s).wk.length=s.wk.length-1:=by simp[Go.AV.foJ]
  unfold mX;rw[h2,hl];rw[hl] at hk;obtain⟨d,hd⟩:∃ d,n-s.up.length=d+1:=⟨n-s.up.length-1,ω⟩
  have hd2:n-(s.up.length+1)=d:=ω;rw[hd,hd2,Nat.add_mul];omega
theorem ir {inp f:Nat}{s:FST}(h:s.wk=[]):gi inp (f+1) s=some s:=by simp only[gi];rw[if_pos h]
theorem fB {inp f:Nat}{s:FST}(h:¬s.wk=[]):gi inp (f+1) s=(dr inp s).bind (gi inp f):=by simp only[gi];rw[if_neg h]
def gX (m:Mly)(s t:Int):FST:=⟨m.nx,m.ot,[],[(s,(t,()))]⟩
def foG (m:Mly)(s t:Int):Option FST:=gi m.inp.toNat (mX m.nx.length (gX m s t)+1) (gX m s t)
def g9 (es:List (KV×Int))(t:Int):Int:=if t= -1 then-1 else bm es t
def foQ (m:Mly)(f:FST):Mly:=⟨m.inp,bm f.up m.st,f.nx.map (λr=>r.map (g9 f.up)),f.ot⟩
def foK (m:Mly)(f:FST):List Int:=(List.range m.nx.length).map fun(i:Nat)=>(foQ m f).rnN.getD (bm f.up (i:Int)).toNat 0
def zY:Mly:=⟨0,0,[],[]⟩
def foP (m:Mly)(s t:Int):Mly:=match foG m s t with|some f=>(foQ m f).rnP|none=>zY
def foC (m:Mly)(s t:Int):List Int:=match foG m s t with|some f=>foK m f|none=>[]
def foB (m:Mly)(s t:Int):Bool:=(foG m s t).isSome
theorem WI.zero {m:Mly}(hm:PK m){s t:Int}(hs:0≤s∧s<m.nx.length)(ht:0≤t∧t<m.nx.length):WI m.nx.length m.inp.toNat (gX m s t):=
 ⟨rfl,hm.ol,λi hi=>by have:=hm.rl i hi;show(m.nx.getD i []).length=_;omega,λi hi=>by have:=hm.ql i hi;show(m.ot.getD i []).length=_;omega,λi a hi ha=>hm.nr i a hi ω,UPOK.nil _,λp hp=>by
   simp only[gX,List.mem_singleton] at hp;subst hp;exact⟨hs,ht⟩⟩
theorem dL {x y:Nat}{s s1:FST}{a:Nat}(h:foR x y s a=some s1):foR x y s (a+1)=foA x y s1 a:=by simp only[foR,h,Option.bind_some]
theorem yC {x y:Nat}{s:FST}{a:Nat}(h:foR x y s a=none):∀ b,a≤b→foR x y s b=none
 |0,hb=>by
  have:a=0:=ω;subst this;exact h
 |b+1,hb=>by
  by_cases e:a=b+1
  ·subst e;exact h
  ·simp only[foR,yC h b ω,Option.bind_none]
theorem xJ {x y a:Nat}{s:FST}(h:foE s.nx y a= -1):foA x y s a=some s:=by unfold foA;rw[if_pos h]
theorem xb {x y a:Nat}{s:FST}(h:¬foE s.nx y a= -1)(h2:foE s.nx x a= -1):foA x y s a=some {s with nx:=foS s.nx x a (foE s.nx y a),ot:=foS s.ot x a (foE s.ot y a)}:=by unfold foA;rw[if_neg h,if_pos h2]
theorem V4 {x y a:Nat}{s:FST}(h:¬foE s.nx y a= -1)(h2:¬foE s.nx x a= -1)(h3:¬foE s.ot x a=foE s.ot y a):foA x y s a=none:=by unfold foA;rw[if_neg h,if_neg h2,if_pos h3]
theorem mM {x y a:Nat}{s:FST}(h:¬foE s.nx y a= -1)(h2:¬foE s.nx x a= -1)(h3:foE s.ot x a=foE s.ot y a):foA x y s a=some {s with wk:=s.wk++[(foE s.nx x a,(foE s.nx y a,()))]}:=by unfold foA;rw[if_neg h,if_neg h2,if_neg (by rw[h3];simp)]
theorem pU {inp:Nat}{s:FST}(h:foU s=foV s):dr inp s=some {s with wk:=s.wk.drop 1}:=by unfold dr;rw[if_pos h]
theorem G1 {inp:Nat}{s:FST}{U W X Y:Nat}(hU:foU s=(U:Int))(hV:foV s=(W:Int))(h:¬(U:Int)=(W:Int))(hX:X=min U W)(hY:Y=max U W):dr inp s=foR X Y (foJ s) inp:=by
 unfold dr;rw[if_neg (by rw[hU,hV];exact h),hU,hV]
 congr 1
 ·omega
 ·omega
theorem oy {inp F i:Nat}{s s':FST}{R:Option FST}(hr:gi inp (F+1-i) s=R)(hi:i<F+1)(h0:0<s.wk.length)(hs:dr inp s=some s'):gi inp (F+1-(i+1)) s'=R:=by
 rw[← hr,show F+1-i=F+1-(i+1)+1 by omega,fB (by intro e;rw[e] at h0;simp at h0),hs,Option.bind_some]
theorem Kd {inp F i:Nat}{s:FST}{R:Option FST}(hr:gi inp (F+1-i) s=R)(hi:i<F+1)(h0:0<s.wk.length)(hs:dr inp s=none):R=none:=by
 rw[← hr,show F+1-i=F+1-(i+1)+1 by omega,fB (by intro e;rw[e] at h0;simp at h0),hs,Option.bind_none]
theorem D3 {inp F i:Nat}{s:FST}{R:Option FST}(hr:gi inp (F+1-i) s=R)(hi:i<F+1)(h0:s.wk=[]):R=some s:=by
 rw[← hr,show F+1-i=F+1-(i+1)+1 by omega,ir h0]
def fF (es:List (KV×Int))(r:List Int)(b:Nat):List Int:=(r.take b).map (g9 es)++r.drop b
def io (es:List (KV×Int))(T:List (List Int))(j:Nat):List (List Int):=(T.take j).map (λr=>r.map (g9 es))++T.drop j
def eH (es:List (KV×Int))(T:List (List Int))(j b:Nat):List (List Int):=(io es T j).set j (fF es (T.getD j []) b)
theorem vn (es:List (KV×Int))(r:List Int)(b:Nat):(fF es r b).length=r.length:=by
 unfold fF;rw[aq,aE,List.length_take,List.length_drop];omega
theorem ii (es:List (KV×Int))(T:List (List Int))(j:Nat):(io es T j).length=T.length:=by
 unfold io;rw[aq,aE,List.length_take,List.length_drop];omega
theorem mw (es:List (KV×Int))(T:List (List Int))(j b:Nat):(eH es T j b).length=T.length:=by unfold eH;rw[List.length_set,ii]
theorem Q7 (es:List (KV×Int))(r:List Int):fF es r 0=r:=by simp[fF]
theorem Gp (es:List (KV×Int))(r:List Int):fF es r r.length=r.map (g9 es):=by simp[fF]
theorem O9 (es:List (KV×Int))(T:List (List Int)):io es T 0=T:=by simp[io]
theorem F0 (es:List (KV×Int))(T:List (List Int)):io es T T.length=T.map (λr=>r.map (g9 es)):=by simp[io]
theorem yN {es:List (KV×Int)}{T:List (List Int)}{j:Nat}(h:j<T.length):(io es T j).getD j []=T.getD j []:=by
 unfold io;simp only[List.getD];rw[List.getElem?_append_right (by simp;omega)];simp[Nat.min_eq_left (Nat.le_of_lt h)]
theorem Pv {es:List (KV×Int)}{T:List (List Int)}{j:Nat}(h:j<T.length):eH es T j 0=io es T j:=by
 unfold eH;rw[Q7,← yN (es:=es) h];exact jc (by simp[List.getD,ii,h])
theorem LD {es:List (KV×Int)}{T:List (List Int)}{j b:Nat}(h:j<T.length):(eH es T j b).getD j []=fF es (T.getD j []) b:=by
 unfold eH;simp[List.getD,ii,h]
theorem EY {es:List (KV×Int)}{T:List (List Int)}{j:Nat}(h:j<T.length):eH es T j (T.getD j []).length=io es T (j+1):=by
 unfold eH;rw[Gp];unfold io;rw[List.set_append_right _ _ (by simp;omega)];have e:j-((T.take j).map λr=>r.map (g9 es)).length=0:=by simp;omega
 have e2:T.getD j []=T[j]:=by simp[List.getD,h]
 rw[e,List.drop_eq_getElem_cons h,bu,List.take_succ_eq_append_getElem h,List.map_append,List.append_assoc,e2]
 rfl
theorem Al {es:List (KV×Int)}{r:List Int}{b:Nat}(h:b<r.length):(fF es r b).getD b 0=r.getD b 0:=by
 unfold fF;simp only[List.getD];rw[List.getElem?_append_right (by simp;omega)];simp[Nat.min_eq_left (Nat.le_of_lt h)]
theorem y4 {es:List (KV×Int)}{r:List Int}{b:Nat}(h:b<r.length):fF es r (b+1)=(fF es r b).set b (g9 es (r.getD b 0)):=by
 unfold fF;rw[List.set_append_right _ _ (by simp;omega)];have e:b-((r.take b).map (g9 es)).length=0:=by simp;omega
 rw[e,List.drop_eq_getElem_cons h,bu,dx h];simp
theorem Fo {es:List (KV×Int)}{T:List (List Int)}{j b:Nat}(hb:b<(T.getD j []).length):(eH es T j b).set j ((fF es (T.getD j []) b).set b (g9 es ((T.getD j []).getD b 0)))=eH es T j (b+1):=by
 unfold eH;rw[List.set_set,y4 hb]
theorem tF {es:List (KV×Int)}{T:List (List Int)}{j b:Nat}(hb:b<(T.getD j []).length)(h:(T.getD j []).getD b 0= -1):eH es T j (b+1)=eH es T j b:=by
 unfold eH;rw[y4 hb]
 congr 1
 have e:g9 es ((T.getD j []).getD b 0)=(fF es (T.getD j []) b).getD b 0:=by rw[Al hb,h];rfl
 rw[e];have hl:b<(fF es (T.getD j []) b).length:=by rw[vn];exact hb
 generalize fF es (T.getD j []) b=q at hl
 exact jc (by simp[List.getD,hl])
def lW (m:Mly)(f:FST)(k:Nat):List Int:=(List.range k).map (fun(i:Nat)=>(foQ m f).rnN.getD (bm f.up (i:Int)).toNat 0)++List.replicate (m.nx.length-k) 0
theorem KR {m:Mly}{f:FST}{k:Nat}(h:k≤m.nx.length):(lW m f k).length=m.nx.length:=by
 unfold lW;rw[aq,aE,List.length_range,aB];omega
theorem RB (m:Mly)(f:FST):lW m f 0=List.replicate m.nx.length 0:=by simp[lW]
theorem KL (m:Mly)(f:FST):lW m f m.nx.length=foK m f:=by simp[lW,foK]
theorem Lx {m:Mly}{f:FST}{k:Nat}(h:k<m.nx.length):(lW m f k).set k ((foQ m f).rnN.getD (bm f.up (k:Int)).toNat 0)=lW m f (k+1):=by
 unfold lW;have:=ov (l:=(List.range k).map (fun(i:Nat)=>(foQ m f).rnN.getD (bm f.up (i:Int)).toNat 0)) (n:=m.nx.length-k) (x:=0) (y:=(foQ m f).rnN.getD (bm f.up (k:Int)).toNat 0) ω;rw[aE,List.length_range] at this;rw[this,List.range_succ,List.map_append,show m.nx.length-(k+1)=m.nx.length-k-1 by omega];rfl
theorem mI {m:Mly}(hm:PK m){f:FST}(h:WI m.nx.length m.inp.toNat f):PK (foQ m f):=by
 have hi1:=hm.i1;have h1:=h.uo.rep hm.s1;have h2:=hm.s2;have hnl:(foQ m f).nx.length=m.nx.length:=by show(f.nx.map _).length=_;rw[aE];exact h.nl
 have hrow:∀ i,i<m.nx.length→(foQ m f).nx.getD i []=(f.nx.getD i []).map (g9 f.up):=λi hi=>by
  show(f.nx.map _).getD i []=_;have:=h.nl;simp[List.getD,show i<f.nx.length by omega]
 refine⟨hm.i1,hm.i2,by rw[hnl];exact hm.n1,by rw[hnl];exact hm.n2,h1.1,by rw[hnl];show bm f.up m.st<_;omega,by rw[hnl];exact h.ol,λi hi=>?_,λi hi=>?_,λi a hi ha=>?_⟩
 ·rw[hnl] at hi
  rw[hrow i hi,aE];have:=h.rl i hi;show((f.nx.getD i []).length:Int)=m.inp;omega
 ·rw[hnl] at hi
  have:=h.ql i hi;show((f.ot.getD i []).length:Int)=m.inp;omega
 ·rw[hnl] at hi
  have ha':(a:Int)<m.inp:=ha;have h3:=h.rl i hi;have h4:=h.nr i a hi ω;rw[hrow i hi,hnl];have e:((f.nx.getD i []).map (g9 f.up)).getD a 0=g9 f.up ((f.nx.getD i []).getD a 0):=by
   have:a<(f.nx.getD i []).length:=ω
   generalize f.nx.getD i []=r at this
   simp[List.getD,this]
  rw[e];unfold g9;split
  ·omega
  ·rename_i hne
   have h5:=h.uo.rep (x:=(f.nx.getD i []).getD a 0) (by have:=h4.1;unfold foE at this;omega);have h6:=h4.2;unfold foE at h6;omega
theorem ve {s:FST}(h0:0<s.wk.length):s.wk.getD 0 (0,(0,()))∈s.wk:=by
 cases hw:s.wk with
 |nil=>rw[hw] at h0;simp at h0
 |cons p r=>simp[List.getD]
def ofE (m:Mly)(ws:List (List Int)):Int:=if ¬trE m ws=0 then trE m ws else oa m.inp [] (trL m ws)
def ofI (m:Mly)(ws:List (List Int)):Int:=if ofE m ws=0 then m.inp else 0
def ofT (m:Mly)(ws:List (List Int)):List TRC:=if ofE m ws=0 then u9 m.inp [] (trL m ws) else []
theorem Tg (m:Mly)(ws:List (List Int)):(trL m ws).length≤ws.length:=by
 unfold trL;split
 ·simp
 ·simp
def bI1 (b:Bool):Int:=if b=true then 1 else 0
def Vf (d:Dfa)(s:Nat):Int:=bI1 (d.acc.getD s false)
def Dfa.sg (d:Dfa)(cl:List Int)(s:Nat):List Int:=cl.getD s 0::(d.nx.getD s []).map λt=>cl.getD t.toNat 0
def Dfa.nxL (d:Dfa)(cl:List Int):List Int:=(List.range d.nx.length).map λs=>(pos (et (d.sg cl) d.nx.length) (d.sg cl s):Int)
def Dfa.cl (d:Dfa):Nat→List Int
 |0=>(List.range d.nx.length).map (Vf d)
 |i+1=>d.nxL (d.cl i)
def Dfa.cn (d:Dfa):Nat→Nat
 |0=>0
 |i+1=>(et (d.sg (d.cl i)) d.nx.length).length
def Dfa.fr (d:Dfa)(i:Nat):List Nat:=dI (λs=>(d.cl i).getD s 0) d.nx.length
def Hz (n:Int)(w:List Int):Prop:=∀ x,x∈w→0≤x∧x<n
theorem Gj {n x:Int}{w:List Int}:Hz n (x::w)↔(0≤x∧x<n)∧Hz n w:=by unfold Hz;simp
def DEQ (a b:Dfa)(s t:Int):Prop:=∀ w:List Int,Hz a.inp w→a.ac (a.run s w)=b.ac (b.run t w)
theorem DEQ.step {a b:Dfa}{s t x:Int}(h:DEQ a b s t)(hx:0≤x∧x<a.inp):DEQ a b (a.dl s x) (b.dl t x):=λw hw=>h (x::w) (Gj.2 ⟨hx,hw⟩)
theorem DEQ.acc {a b:Dfa}{s t:Int}(h:DEQ a b s t):a.ac s=b.ac t:=h [] (λx hx=>by cases hx)
theorem DEQ.refl (d:Dfa)(s:Int):DEQ d d s s:=λ_ _=>rfl
theorem DEQ.symm {d:Dfa}{s t:Int}(h:DEQ d d s t):DEQ d d t s:=λw hw=>(h w hw).symm
theorem DEQ.trans {d:Dfa}{s t u:Int}(h:DEQ d d s t)(h2:DEQ d d t u):DEQ d d s u:=λw hw=>(h w hw).trans (h2 w hw)
theorem DEQ.join {a b c:Dfa}{s t u:Int}(hi:a.inp=b.inp)(h:DEQ a b s t)(h2:DEQ b c t u):DEQ a c s u:=λw hw=>(h w hw).trans (h2 w (hi▸hw))
structure SIM (A B:STP)(n:Nat)(R:PP→PP→Prop):Prop where
 st:∀ p q,R p q→∀ x,x<n→R (A p x) (B q x)
 bi:∀ p q p' q',R p q→R p' q'→(p=p'↔q=q')
def RL (R:PP→PP→Prop)(l l':List W3):Prop:=l.length=l'.length∧∀ i,i<l.length→R (l.getD i w30).1 (l'.getD i w30).1∧(l.getD i w30).2=(l'.getD i w30).2
theorem RL.mem {A B:STP}{n:Nat}{R:PP→PP→Prop}(hs:SIM A B n R){l l':List W3}(h:RL R l l'){p q:PP}(hr:R p q):p∈l.map Prod.fst↔q∈l'.map Prod.fst:=by
 constructor
 ·intro hm
  obtain⟨e,he,e1⟩:=List.mem_map.1 hm;obtain⟨i,hi⟩:=List.getElem?_of_mem he;have hlt:=(Δ.1 hi).1;have h2:=h.2 i hlt;have h3:l.getD i w30=e:=by rw[List.getD,hi];rfl
  rw[h3,e1] at h2;have:=(hs.bi _ _ _ _ h2.1 hr).1 rfl;rw[← this];exact List.mem_map.2 ⟨_,BI (by rw[← h.1];exact hlt),rfl⟩
 ·intro hm
  obtain⟨e,he,e1⟩:=List.mem_map.1 hm;obtain⟨i,hi⟩:=List.getElem?_of_mem he;have hlt:=(Δ.1 hi).1;have h2:=h.2 i (by rw[h.1];exact hlt);have h3:l'.getD i w30=e:=by rw[List.getD,hi];rfl
  rw[h3,e1] at h2;have:=(hs.bi _ _ _ _ h2.1 hr).2 rfl;rw[← this];exact List.mem_map.2 ⟨_,BI (by rw[h.1];exact hlt),rfl⟩
theorem RL.snoc {R:PP→PP→Prop}{l l':List W3}(h:RL R l l'){e f:W3}(hr:R e.1 f.1)(hw:e.2=f.2):RL R (l++[e]) (l'++[f]):=by
 refine⟨by simp[h.1],λi hi=>?_⟩;rw[aq,List.length_singleton] at hi
 by_cases e1:i<l.length
 ·rw[dS e1,dS (by rw[← h.1];exact e1)];exact h.2 i e1
 ·rw[ge ω,ge (by have:=h.1;omega)];exact⟨hr,hw⟩
theorem RL.row {A B:STP}{n:Nat}{R:PP→PP→Prop}(hs:SIM A B n R){l l':List W3}(h:RL R l l'){e f:W3}(hr:R e.1 f.1)(hw:e.2=f.2):∀ x,x≤n→RL R (mU A e l x) (mU B f l' x)
 |0,_=>h
 |x+1,hx=>by
  have ih:=h.row hs hr hw x ω;have h2:=hs.st _ _ hr x ω;rw[md,md]
  by_cases hm:A e.1 x∈(mU A e l x).map Prod.fst
  ·rw[BQ hm,BQ ((ih.mem hs h2).1 hm)];exact ih
  ·rw[vR hm,vR (λk=>hm ((ih.mem hs h2).2 k))]
   exact ih.snoc h2 (by rw[hw])
theorem RL.one {R:PP→PP→Prop}{p q:PP}(h:R p q):RL R [(p,[])] [(q,[])]:=⟨rfl,λi hi=>by
 have:i=0:=by simpa using hi
 subst this;exact⟨h,rfl⟩⟩
def SLT (u v:List Int):Prop:=u.length<v.length∨(u.length=v.length∧∃ m,m<u.length∧(∀ q,q<m→u.getD q 0=v.getD q 0)∧u.getD m 0<v.getD m 0)
def SLE (u v:List Int):Prop:=u=v∨SLT u v
theorem SLT.trans {u v w:List Int}(h:SLT u v)(h2:SLT v w):SLT u w:=by
 rcases h with h|⟨h,m,a1,a2,a3⟩
 ·rcases h2 with h2|⟨h2,_⟩
  ·exact .inl ω
  ·exact .inl ω
 ·rcases h2 with h2|⟨h2,k,b1,b2,b3⟩
  ·exact .inl ω
  ·refine .inr ⟨ω,?_⟩
   rcases Nat.lt_trichotomy m k with e|e|e
   ·exact⟨m,a1,λq hq=>(a2 q hq).trans (b2 q ω),by rw[← b2 m e];exact a3⟩
   ·subst e;exact⟨m,a1,λq hq=>(a2 q hq).trans (b2 q hq),ω⟩
   ·exact⟨k,ω,λq hq=>(a2 q ω).trans (b2 q hq),by rw[a2 k e];exact b3⟩
theorem SLE.trans_lt {u v w:List Int}(h:SLE u v)(h2:SLT v w):SLT u w:=by
 rcases h with rfl|h
 ·exact h2
 ·exact h.trans h2
theorem SLE.trans {u v w:List Int}(h:SLE u v)(h2:SLE v w):SLE u w:=by
 rcases h2 with rfl|h2
 ·exact h
 ·exact .inr (h.trans_lt h2)
theorem SLT.app {u v:List Int}(h:SLT u v)(a b:Int):SLT (u++[a]) (v++[b]):=by
 rcases h with h|⟨h,m,a1,a2,a3⟩
 ·exact .inl (by simp;omega)
 ·refine .inr ⟨by simp;omega,m,by simp;omega,λq hq=>?_,?_⟩
  ·rw[dS ω,dS ω];exact a2 q hq
  ·rw[dS a1,dS ω];exact a3
theorem SLT.last (u:List Int){a b:Int}(h:a<b):SLT (u++[a]) (u++[b]):=by
 refine .inr ⟨η,u.length,η,λq hq=>?_,?_⟩
 ·rw[dS hq,dS hq]
 ·rw[ge rfl,ge rfl];exact h
theorem SLE.app {u v:List Int}(h:SLE u v)(a:Int):SLE (u++[a]) (v++[a]):=by
 rcases h with rfl|h
 ·exact .inl rfl
 ·exact .inr (h.app a a)
theorem SLT.nil (u:List Int)(x:Int):SLT [] (u++[x]):=.inl η
theorem SLE.len {u v:List Int}(h:SLE u v):u.length≤v.length:=by
 rcases h with rfl|h|⟨h,_⟩<;>omega
structure BW (A:STP)(n i:Nat)(l:List W3):Prop where
 so:∀ j k,j<k→k<l.length→SLT (l.getD j w30).2 (l.getD k w30).2
 mi:∀ j,j<i→j<l.length→∀ x,x<n→∃ k,k<l.length∧(l.getD k w30).1=A (l.getD j w30).1 x∧SLE (l.getD k w30).2 ((l.getD j w30).2++[(x:Int)])
 up:i<l.length→∀ k,k<l.length→SLT (l.getD k w30).2 ((l.getD i w30).2++[0])
structure BX (A:STP)(n i x:Nat)(l0 l:List W3):Prop where
 so:∀ j k,j<k→k<l.length→SLT (l.getD j w30).2 (l.getD k w30).2
 mi:∀ y,y<x→∃ k,k<l.length∧(l.getD k w30).1=A (l0.getD i w30).1 y∧SLE (l.getD k w30).2 ((l0.getD i w30).2++[(y:Int)])
 up:∀ k,k<l.length→SLT (l.getD k w30).2 ((l0.getD i w30).2++[(x:Int)])
end Go.AV
