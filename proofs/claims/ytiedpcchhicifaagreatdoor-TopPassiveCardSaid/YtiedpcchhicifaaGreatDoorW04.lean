/- Part of the proof. -/
import Derived.Test.YtiedpcchhicifaaGreatDoorW03
set_option linter.unusedSimpArgs false
set_option linter.unusedVariables false
set_option maxRecDepth 100000
set_option maxHeartbeats 4000000
open List renaming getElem?_eq_some_iff→Δ
open Option.some renaming injEq→Λ
open Nat renaming le_refl→Υ
namespace Go.AV
open Nat renaming reduceEqDiff→ad,reduceAdd→J,reduceLeDiff→ae,reduceLT→aj,reduceMul→af,reduceSub→ag
open List renaming set_cons_zero→bu,set_cons_succ→bV,getD_cons_zero→aI,length_append→aq,map_cons→aJ,cons_append→aG,map_nil→aV,length_cons→ax,nil_append→aC,take_succ_cons→cE,length_nil→aF,length_map→aE,length_replicate→aB,take_length→aP,mem_cons_self→ba,mem_cons_of_mem→aQ
open Int renaming toNat_natCast→az
theorem xA:∀ {v w:List Int},jh v w=w.length→∃ r,v=w++r
 |v,[],_=>⟨v,rfl⟩
 |[],b::w,h=>by simp[jh] at h
 |a::v,b::w,h=>by
  simp only[jh] at h;split at h
  ·rename_i e
   obtain⟨r,hr⟩:=xA (v:=v) (w:=w) (by simpa using h);exact⟨r,by rw[e,hr];rfl⟩
  ·simp at h
theorem DU {L:List (List Int)}:∀ (d k:Nat),k+d+1=L.length→∃ k',k'<L.length∧mxK L k'=true∧∃ r,L.getD k' []=L.getD k []++r
 |0,k,h=>⟨k,ω,by unfold mxK;simp;left;omega,[],η⟩
 |d+1,k,h=>by
  by_cases hk:mxK L k=true
  ·exact⟨k,ω,hk,[],η⟩
  ·obtain⟨k',h1,h2,r,h3⟩:=DU (L:=L) d (k+1) ω
   have h4:jh (L.getD (k+1) []) (L.getD k [])=(L.getD k []).length:=by
    unfold mxK at hk;simp only[Bool.or_eq_true,decide_eq_true_eq,Bool.not_eq_true',decide_eq_false_iff_not,not_or,Decidable.not_not] at hk;omega
   obtain⟨r2,h5⟩:=xA h4;exact⟨k',h1,h2,r2++r,by rw[h3,h5,List.append_assoc]⟩
theorem OP {ws:List (List Int)}{w:List Int}(h:w∈ws):∃ u,u∈mxS ws∧∃ r,u=w++r:=by
 have h1:w∈fG ws:=by unfold fG;rw[kc,gP];exact h
 obtain⟨k,hk,rfl⟩:=List.getElem_of_mem h1;obtain⟨k',g1,g2,r,g3⟩:=DU (L:=fG ws) ((fG ws).length-k-1) k ω;refine⟨(fG ws).getD k' [],?_,r,?_⟩
 ·unfold mxS
  rw[ez];unfold mxF;exact List.mem_map.2 ⟨k',List.mem_filter.2 ⟨List.mem_range.2 g1,g2⟩,rfl⟩
 ·rw[g3];simp[List.getD,hk]
theorem xH {ws:List (List Int)}{w:List Int}(h:w∈mxS ws):w∈ws:=by
 unfold mxS at h;rw[ez] at h;exact oP (E6 (Υ _) h)
theorem Cc (ws:List (List Int)):(mxS ws).length≤ws.length:=by
 unfold mxS;exact Nat.le_trans (fy _) (Nat.le_trans (BL _ _) (ED ws))
theorem Md {X:List TRC}{t:TRC}{w:List Int}(h:∃ u,u∈X∧pfB u.1 w=true):∃ u,u∈iU X t∧pfB u.1 w=true:=by
 obtain⟨u,hu,hp⟩:=h;unfold iU;split
 ·exact⟨u,hu,hp⟩
 ·cases hd:pfB t.1 u.1 with
  |false=>exact⟨u,gL.2 (.inr (iE.2 ⟨hu,hd⟩)),hp⟩
  |true=>exact⟨t,gL.2 (.inl rfl),Gm hd hp⟩
theorem ML {X:List TRC}{t:TRC}(h:¬t.1.length=0):∃ u,u∈iU X t∧pfB u.1 t.1=true:=by
 unfold iU
 cases hi:kF X t with
 |false=>exact⟨t,by rw[if_neg η];exact gL.2 (.inl rfl),z8 _⟩
 |true=>
  rw[if_pos rfl];unfold kF at hi;rw[Bool.or_eq_true] at hi;rcases hi with hi|hi
  ·obtain⟨u,hu,hp⟩:=List.any_eq_true.1 hi
   exact⟨u,hu,hp⟩
  ·exact absurd (of_decide_eq_true hi) h
theorem JA {X l:List TRC}:∀ (k:Nat),k≤l.length→∀ q,q<k→¬(l.getD q aT).1.length=0→∃ u,u∈XK X l k∧pfB u.1 (l.getD q aT).1=true
 |0,_,q,hq,_=>by omega
 |k+1,hk,q,hq,hn=>by
  rw[kv ω]
  by_cases e:q=k
  ·subst e;exact ML hn
  ·exact Md (JA k ω q ω hn)
theorem GC {l:List TRC}:∀ (k:Nat),k≤l.length→∀ u,u∈XK [] l k→¬u.1.length=0
 |0,_,u,hu=>by rw[MU] at hu;cases hu
 |k+1,hk,u,hu=>by
  rw[kv ω] at hu;unfold iU at hu;split at hu
  ·exact GC k ω u hu
  ·rename_i hi
   rcases gL.1 hu with rfl|hu
   ·exact(AP (by simpa using hi)).2
   ·exact GC k ω u (iE.1 hu).1
theorem yv:∀ a b:List Int,a.take (cmn a b)=b.take (cmn a b)
 |[],b=>by cases b<;>simp[cmn]
 |x::a,[]=>by simp[cmn]
 |x::a,y::b=>by
  simp only[cmn];split
  ·rename_i e;rw[cE,cE,yv a b,e]
  ·simp
theorem zA {n:Mly}{u v:TRC}(hu:u.2.1=(n.go 0 u.1).2)(hv:v.2.1=(n.go 0 v.1).2):dfO u v= -1:=by
 refine Rb λq hq=>?_;have hle:=BZ u.1 v.1;have hqc:q<cmn u.1 v.1:=by unfold dfN at hq;omega
 have hq1:u.1.take (q+1)=v.1.take (q+1):=by
  have:=congrArg (λl=>l.take (q+1)) (yv u.1 v.1);simp only[List.take_take,Nat.min_eq_left (show q+1≤cmn u.1 v.1 by omega)] at this;exact this
 have hq0:u.1.take q=v.1.take q:=by
  have:=congrArg (λl=>l.take q) hq1;simp only[List.take_take,Nat.min_eq_left (show q≤q+1 by omega)] at this;exact this
 have hqd:u.1.getD q 0=v.1.getD q 0:=by
  have h1:(u.1.take (q+1)).getD q 0=u.1.getD q 0:=by simp only[List.getD];rw[List.getElem?_take_of_lt ω]
  have h2:(v.1.take (q+1)).getD q 0=v.1.getD q 0:=by simp only[List.getD];rw[List.getElem?_take_of_lt ω]
  rw[← h1,← h2,hq1]
 rw[hu,hv,qj n 0 ω,qj n 0 ω,hq0,hqd]
theorem sP {m:Mly}{s t:Int}{w:List Int}:nN m s t w=true↔(m.go s w).2≠(m.go t w).2:=by unfold nN;simp
theorem DE {m:Mly}{s t:Nat}{acc:List (List Int)}{w:List Int}(h:w∈acc):w∈csN m s t acc:=by
 unfold csN;split
 ·exact h
 ·exact List.mem_append_left _ h
theorem Eu {m:Mly}{s:Nat}{acc:List (List Int)}{w:List Int}(h:w∈acc):∀ k,w∈csT m s k acc
 |0=>h
 |k+1=>DE (Eu h k)
theorem Oz {n:Mly}(h:CAN n){s t:Nat}(hs:s<n.nx.length)(ht:t<n.nx.length)(hst:s≠t)(acc:List (List Int)):∃ w,w∈csN n s t acc∧nN n s t w=true:=by
 unfold csN;split
 ·rename_i ha
  obtain⟨w,hw,hp⟩:=List.any_eq_true.1 ha;exact⟨w,hw,hp⟩
 ·have hse:stW n s t=seS n n s t:=by unfold stW;rw[if_pos ⟨ci h.ok,ω,ω⟩]
  cases e:seS n n s t with
  |none=>
   have h1:=KN h.ok h.ok rfl (s:=(s:Int)) (t:=(t:Int)) ω ω e;have:=h.ds s t ω ω ω ω h1;omega
  |some w=>
   refine⟨w,List.mem_append_right _ (by rw[hse,e];simp),sP.2 (wS e).2.1⟩
theorem Ek {n:Mly}(h:CAN n){s:Nat}(hs:s<n.nx.length){acc:List (List Int)}:∀ k,s+1+k≤n.nx.length→∀ q,q<k→∃ w,w∈csT n s k acc∧nN n s ((s+1+q:Nat):Int) w=true
 |0,_,q,hq=>by omega
 |k+1,hk,q,hq=>by
  by_cases e:q=k
  ·subst e;exact Oz h hs ω ω _
  ·obtain⟨w,h1,h2⟩:=Ek h hs (acc:=acc) k ω q ω
   exact⟨w,DE h1,h2⟩
theorem wc {n:Mly}(h:CAN n):∀ s,s≤n.nx.length→∀ i j:Nat,i<s→i<j→j<n.nx.length→∃ w,w∈csS n s∧nN n i j w=true
 |0,_,i,j,hi,_,_=>by omega
 |s+1,hs,i,j,hi,hij,hj=>by
  by_cases e:i=s
  ·subst e
   obtain⟨w,h1,h2⟩:=Ek h (s:=i) ω (acc:=csS n i) (n.nx.length-(i+1)) ω (j-(i+1)) ω;rw[show i+1+(j-(i+1))=j by omega] at h2;exact⟨w,h1,h2⟩
  ·obtain⟨w,h1,h2⟩:=wc h s ω i j ω hij hj
   exact⟨w,Eu h1 _,h2⟩
theorem Lz {n:Mly}(hs:SMO n){i j:Nat}(hi:i<n.nx.length)(hj:j<n.nx.length)(hij:i≠j):∃ e,e∈eY n∧(n.go i e).2≠(n.go j e).2:=by
 have key:∃ w,w∈csS n n.nx.length∧(n.go i w).2≠(n.go j w).2:=by
  rcases Nat.lt_or_gt_of_ne hij with c|c
  ·obtain⟨w,h1,h2⟩:=wc hs.can n.nx.length (Υ _) i j hi c hj
   exact⟨w,h1,sP.1 h2⟩
  ·obtain⟨w,h1,h2⟩:=wc hs.can n.nx.length (Υ _) j i hj c hi
   exact⟨w,h1,(sP.1 h2).symm⟩
 obtain⟨w,h1,h2⟩:=key;have hc:w∈lp n:=by unfold lp;rw[if_pos hs.ck,ez];exact h1
 refine⟨w,?_,h2⟩;unfold eY;rw[if_neg (by have:=List.length_pos_of_mem hc;omega)];exact hc
theorem qu {w:List Int}{n:Int}(h:WOK w n):LET n w:=λx hx=>by
 obtain⟨i,hi,rfl⟩:=List.getElem_of_mem hx;have:=h.sym i hi
 simpa [List.getD,hi] using this
theorem vd {w:List Int}{n:Int}(h:LET n w)(i:Nat)(hi:i<w.length):0≤w.getD i 0∧w.getD i 0<n:=h _ (cP hi)
theorem oS {m:Mly}(hv:aK m=0):m.mres.inp=m.inp:=by rw[oV hv];rfl
theorem sX {m:Mly}(hv:aK m=0):CAN m.mres:=by rw[oV hv];exact xo (fc hv)
theorem uM {m:Mly}(hv:aK m=0){w:List Int}(hw:LET m.inp w):TOF m.mres (trX m w):=by
 have hc:=sX hv;have hi:=oS hv;have e:(trX m w).2.1=(m.mres.go 0 w).2:=by
  rw[oV hv,qX (fc hv) w (λi h=>vd hw i h)];rfl
 refine⟨by rw[hi];exact hw,e,λj hj=>?_⟩;have hj2:j<w.length:=hj;rw[e,qj m.mres 0 hj2];have hn:=hc.ok.n1;have hr:=(H4 hc.ok (w.take j) 0 ω (λi h=>vd (LET.take (by rw[hi];exact hw) j) i h)).1;have hy:=vd hw j hj2;have ho:=hc.ok.or (m.mres.go 0 (w.take j)).1.toNat (w.getD j 0).toNat ω (by rw[hi];omega);exact ho
structure OBK (m:Mly)(ws:List (List Int)):Prop where
 lt:∀ w,w∈ws→bQ w m.inp=0
 xk:ofT m ws=XK [] (ws.map (trX m)) ws.length
 ob:OBI m.inp (ofT m ws)
 inp:ofI m ws=m.inp
theorem Hw {m:Mly}{ws:List (List Int)}(he:ofE m ws=0):OBK m ws:=by
 have he0:=he;unfold ofE at he;have ht:trE m ws=0:=by
  refine Decidable.byContradiction λh=>?_;rw[if_pos h] at he;exact h he
 rw[if_neg (λh=>h ht)] at he;have htr:=oM ht;have hi:ofI m ws=m.inp:=by unfold ofI;rw[if_pos he0]
 have hT:ofT m ws=u9 m.inp [] (trL m ws):=by unfold ofT;rw[if_pos he0]
 have hV:u9 m.inp [] (trL m ws)=XK [] (trL m ws) (trL m ws).length:=by unfold u9;rw[if_pos he]
 have hlt:∀ w,w∈ws→bQ w m.inp=0:=by
  unfold trE at ht;split at ht
  ·contradiction
  ·split at ht
   ·contradiction
   ·intro w hw
    obtain⟨i,hil,rfl⟩:=List.getElem_of_mem hw;have:=jR ht i hil
    simpa [List.getD,hil] using this
 have hie:∀ q,q<(trL m ws).length→jm m.inp [] (trL m ws) q=0:=jR he;refine⟨hlt,?_,?_,hi⟩
 ·rw[hT,hV,htr,aE]
 ·rw[hT,hV]
  exact Hv ⟨List.Pairwise.nil,λu hu=>(by cases hu),λu hu=>(by cases hu)⟩ (Υ _) hie
structure OBF (m:Mly)(ws:List (List Int)):Prop where
 tof:∀ k,k<(ofT m ws).length→TOF m.mres ((ofT m ws).getD k aT)
 trv:TRV m.mres.inp (ofT m ws)
 fit:FIT (ofT m ws)
 ob:OBI m.mres.inp (ofT m ws)
 ne:∀ u,u∈ofT m ws→¬u.1.length=0
 sm:SMPL m.mres (acX m.mres) (OBT m.mres (ofT m ws))
 inp:ofI m ws=m.mres.inp
theorem AG {m:Mly}(hv:aK m=0)(hs:SMO m.mres){ws:List (List Int)}(hl:ws.length≤9000)(hsub:∀ w,w∈eh m.mres→w∈ws)(he:ofE m ws=0):OBF m ws:=by
 have hk:=Hw he;have hinp:=oS hv;have hi1:=hs.ok.i1;have hi2:=hs.ok.i2;have hlet:∀ w,w∈ws→LET m.inp w:=λw hw=>qu (me (hk.lt w hw));have hml:(ws.map (trX m)).length=ws.length:=aE _;have hmem:∀ u,u∈ofT m ws→∃ w,w∈ws∧u=trX m w:=λu hu=>by
  rw[hk.xk] at hu;rcases qS ω u hu with h|⟨q,hq,h⟩
  ·cases h
  ·refine⟨ws.getD q [],dn hq,?_⟩
   rw[h];simp[List.getD,hq]
 have htof:∀ u,u∈ofT m ws→TOF m.mres u:=λu hu=>by
  obtain⟨w,hw,rfl⟩:=hmem u hu;exact uM hv (hlet w hw)
 have hat:∀ k,k<(ofT m ws).length→(ofT m ws).getD k aT∈ofT m ws:=λk h=>jk h;have hlen:(ofT m ws).length≤9000:=by
  rw[hk.xk];have:=v8 (X:=[]) (l:=ws.map (trX m)) (k:=ws.length) ω;simp at this;omega
 have hpl:∀ u,u∈ofT m ws→u.1.length≤1024∧u.2.1.length≤1024:=λu hu=>xF (hk.ob.pr u hu);have hne:∀ u,u∈ofT m ws→¬u.1.length=0:=λu hu=>by
  rw[hk.xk] at hu;exact GC ws.length ω u hu
 have hcov:∀ w,w∈ws→¬w.length=0→∃ k,k<(ofT m ws).length∧∃ r,((ofT m ws).getD k aT).1=w++r:=λw hw hn=>by
  obtain⟨q,hq,rfl⟩:=List.getElem_of_mem hw;have hg:(ws.map (trX m)).getD q aT=trX m ws[q]:=by simp[List.getD,hq]
  obtain⟨u,hu,hp⟩:=JA (X:=[]) (l:=ws.map (trX m)) ws.length ω q hq (by rw[hg];exact hn);rw[hg] at hp;rw[← hk.xk] at hu;obtain⟨k,hkl,rfl⟩:=List.getElem_of_mem hu;have hpt:=m6.1 hp;refine⟨k,hkl,(ofT m ws)[k].1.drop ws[q].length,?_⟩;have e:(ofT m ws).getD k aT=(ofT m ws)[k]:=by simp[List.getD,hkl]
  rw[e];have hpt2:ws[q]=List.take ws[q].length (ofT m ws)[k].1:=hpt
  conv=>rhs;lhs;rw[hpt2]
  exact(List.take_append_drop _ _).symm
 have hcovU:∀ w,w∈kR m.mres→¬w.length=0→OBT m.mres (ofT m ws) w:=λw hw hn=>by
  obtain⟨u,hu,r,hr⟩:=OP hw;obtain⟨k,hkl,r2,hr2⟩:=hcov u (hsub u hu) (by rw[hr,aq];omega);exact⟨(hs.uOK.2 w hw).1,k,hkl,r++r2,by rw[hr2,hr,List.append_assoc]⟩
 have hacm:∀ {t:Nat},t<m.mres.nx.length→acX m.mres t∈cW m.mres:=λht=>D2 hs.can ht;have htrs:∀ i a:Nat,i<m.mres.nx.length→a<m.mres.inp.toNat→acX m.mres i++[(a:Int)]∈ef m.mres:=λi a hi ha=>(A9 hs.ok).2 ⟨_,a,hacm hi,ha,rfl⟩;have htr:∀ i a:Nat,i<m.mres.nx.length→a<m.mres.inp.toNat→OBT m.mres (ofT m ws) (acX m.mres i++[(a:Int)]):=λi a hi ha=>
  hcovU _ (m7.2 (.inl (htrs i a hi ha))) η
 have hn1:=hs.ok.n1;refine⟨λk h=>htof _ (hat k h),⟨hi1,hi2,λk h j hj=>(htof _ (hat k h)).sy hj,λk h=>?_,λk h j hj=>(htof _ (hat k h)).or j hj⟩,⟨?_,ω,?_,λu hu=>?_,λu hu v hw hnv=>?_,λu hu v hw=>?_⟩,by rw[hinp];exact hk.ob,hne,
  ⟨λw h=>h.1,htr,λi j hi hj hij=>?_⟩,by rw[hinp];exact hk.inp⟩
 ·rw[(htof _ (hat k h)).ot,oD]
 ·obtain⟨_,k,h1,_⟩:=htr 0 0 ω ω
  omega
 ·have hsrt:=hk.ob.srt
  unfold SRT at hsrt;refine List.pairwise_map.2 (hsrt.imp λ{a b} h e=>?_);rw[e,mf] at h;omega
 ·have:=hpl u hu;omega
 ·cases hp:pfB u.1 v.1 with
  |false=>rfl
  |true=>exact absurd (Qo hp (hk.ob.pfr u hu v hw hp)) hnv
 ·rw[zA (htof u hu).ot (htof v hw).ot];omega
 ·obtain⟨e,he1,he2⟩:=Lz hs hi hj hij
  have hen:¬e.length=0:=λh0=>he2 (by rw[List.eq_nil_of_length_eq_zero h0];rfl);refine⟨e,(hs.endOK.2.2 e he1).1,he2,λx hx=>?_,λx a hx ha=>?_⟩
  ·exact hcovU _ (m7.2 (.inr (ou.2 ⟨acX m.mres x,e,.inl (hacm hx),he1,rfl⟩))) (by rw[aq];omega)
  ·exact hcovU _ (m7.2 (.inr (ou.2 ⟨acX m.mres x++[(a:Int)],e,.inr (htrs x a hx ha),he1,rfl⟩))) (by rw[aq];omega)
theorem ud {m:Mly}(hv:aK m=0)(hs:SMO m.mres){ws:List (List Int)}(hl:ws.length≤9000)(hsub:∀ w,w∈eh m.mres→w∈ws)(he:ofE m ws=0)(ht:dY m.mres.inp (ofT m ws)=0):
 PRK (leP m.mres.inp (ofT m ws))∧(leP m.mres.inp (ofT m ws)).nx.length≤128∧kz (coM (leP m.mres.inp (ofT m ws)) 0) m.mres=true:=by
 have h:=AG hv hs hl hsub he;obtain⟨p1,p2,p3,p4,p5⟩:=Bl hs.can h.tof h.trv h.sm ht;have hn:=hs.ok;have hi1:=hn.i1;refine⟨p1,by rw[p4];exact hn.n2,?_⟩;have hco:coM (leP m.mres.inp (ofT m ws)) 0=m.mres:=by
  have hst:=hs.can.st;have e1:o6 (leP m.mres.inp (ofT m ws)) (leP m.mres.inp (ofT m ws)).nx.length=m.mres.nx:=by
   rw[p4];refine List.ext_getElem (by rw[Ae]) λi g1 g2=>?_;have hrl:=hn.rl i g2;have e:(o6 (leP m.mres.inp (ofT m ws)) m.mres.nx.length)[i]=HX (leP m.mres.inp (ofT m ws)) i:=by simp[o6]
   rw[e];have er:m.mres.nx[i]=m.mres.nx.getD i []:=by simp[List.getD,g2]
   rw[er];unfold HX;rw[p2];refine List.ext_getElem (by rw[aE,List.length_range];omega) λa a1 a2=>?_;have hnr:=hn.nr i a g2 ω;have ea:(m.mres.nx.getD i [])[a]=(m.mres.nx.getD i []).getD a 0:=by
    generalize m.mres.nx.getD i []=r at a2;simp[List.getD,a2]
   rw[List.getElem_map,List.getElem_range,ea];unfold coN;rw[p4,if_neg ω]
  have e2:nK (leP m.mres.inp (ofT m ws)) 0 (leP m.mres.inp (ofT m ws)).nx.length=m.mres.ot:=by
   rw[p4];have hol:=hn.ol;refine List.ext_getElem (by rw[yM];omega) λi g1 g2=>?_;have hql:=hn.ql i ω;have hil:i<m.mres.nx.length:=ω;have e:(nK (leP m.mres.inp (ofT m ws)) 0 m.mres.nx.length)[i]=I1 (leP m.mres.inp (ofT m ws)) 0 i:=by simp[nK]
   rw[e];have er:m.mres.ot[i]=m.mres.ot.getD i []:=by simp[List.getD,g2]
   rw[er];unfold I1;rw[p2];refine List.ext_getElem (by rw[aE,List.length_range];omega) λa a1 a2=>?_;have hnr:=hn.nr i a hil ω;have ea:(m.mres.ot.getD i [])[a]=(m.mres.ot.getD i []).getD a 0:=by
    generalize m.mres.ot.getD i []=r at a2;simp[List.getD,a2]
   rw[List.getElem_map,List.getElem_range,ea];unfold coO;rw[p4,p5,if_neg ω]
  unfold coM;rw[e1,e2,p2,p3,← hst]
 rw[hco];simp[kz]
theorem PU {m:Mly}(hv:aK m=0){w:List Int}(hw:bQ w m.inp=0):prO m.inp (trX m w)=0:=by
 have ht:=uM hv (qu (me hw));refine wn hw ?_ ?_
 ·show(m.go m.st w).2.length=w.length
  exact oD m m.st w
 ·have:eK pO (trX m w).2.1= -1:=kw λq hq=>by
   have hq2:q<w.length:=by
    have e:(trX m w).2.1.length=w.length:=oD m m.st w;omega
   have:=ht.or q hq2;unfold pO;simp only[Bool.or_eq_false_iff,decide_eq_false_iff_not];omega
  rw[this];omega
theorem Lq {m:Mly}(hv:aK m=0){ws:List (List Int)}(hl:ws.length≤9000)(hw:∀ w,w∈ws→bQ w m.inp=0):ofE m ws=0:=by
 have ht:trE m ws=0:=qi hv ω λi hi=>hw _ (dn hi);have htr:=oM ht;unfold ofE;rw[if_neg (λh=>h ht),htr];refine bH λi hi=>?_;rw[aE] at hi;have hg:∀ q,q<ws.length→(ws.map (trX m)).getD q aT=trX m (ws.getD q []):=λq hq=>by simp[List.getD,hq]
 unfold jm;rw[hg i hi];refine DA (PU hv (hw _ (dn hi))) (C6 λq hq=>?_);have hu:=jk hq;rcases qS (by rw[aE];omega) _ hu with h|⟨q2,h1,h2⟩
 ·cases h
 ·rw[h2,hg q2 ω,zA (uM hv (qu (me (hw _ (dn (show q2<ws.length by omega)))))).ot (uM hv (qu (me (hw _ (dn hi))))).ot]
  omega
theorem Si {inp:Nat}{t:TRC}{j:Nat}{q:TST}(h:q.nx.length<4096):∃ q',trA inp t j q=some q'∧q'.nx.length≤q.nx.length+1:=by
 by_cases h1:foE q.nx q.s (t.1.getD j 0).toNat= -1
 ·exact⟨_,wh h1 ω,by simp[cM]⟩
 ·exact⟨_,wm h1,Nat.le_succ _⟩
theorem J7 {inp:Nat}{t:TRC}{q:TST}:∀ j,q.nx.length+j<4096→∃ q',trT inp t q j=some q'∧q'.nx.length≤q.nx.length+j
 |0,_=>⟨_,rfl,Υ _⟩
 |j+1,h=>by
  obtain⟨q1,e1,h1⟩:=J7 (inp:=inp) (t:=t) (q:=q) j ω;obtain⟨q2,e2,h2⟩:=Si (inp:=inp) (t:=t) (j:=j) (q:=q1) ω;exact⟨q2,by rw[ji e1];exact e2,ω⟩
theorem Hm {inp B:Nat}{T:List TRC}(hB:∀ k,k<T.length→(T.getD k aT).1.length≤B):∀ i,i≤T.length→1+i*B<4096→∃ q,trR inp T i=some q∧q.nx.length≤1+i*B
 |0,_,_=>⟨_,rfl,η⟩
 |i+1,hi,h=>by
  rw[Nat.add_mul,Nat.one_mul] at h⊢;obtain⟨q1,e1,h1⟩:=Hm (inp:=inp) hB i ω ω;have hb:=hB i ω;obtain⟨q2,e2,h2⟩:=J7 (inp:=inp) (t:=T.getD i aT) (q:=q1) (T.getD i aT).1.length ω;exact⟨q2,by rw[oo e1];exact e2,ω⟩
theorem L7 {inp:Int}{B:Nat}{T:List TRC}(hB:∀ k,k<T.length→(T.getD k aT).1.length≤B)(h:1+T.length*B<4096):dY inp T=0:=by
 obtain⟨q,e,_⟩:=Hm (inp:=inp.toNat) hB T.length (Υ _) h;unfold dY lj;rw[e]
def br:Mly:=⟨2,0,[[1,0],[1,0]],[[1,0],[1,2]]⟩
theorem sf:aK br=0:=by decide+kernel
theorem sJ:br.mres=br:=by
 rw[← zL]
 decide+kernel
theorem sG:SMO br.mres:=⟨sX sf,by rw[sJ];decide,by rw[sJ];decide⟩
theorem IL:(csS br 2).length≤1∧(csS br 2).all (λw=>decide (w.length≤4))=true:=by decide+kernel
theorem UB:(eY br.mres).length≤1∧∀ w,w∈eY br.mres→w.length≤4:=by
 have hs:=sG;rw[sJ] at hs⊢;unfold eY;split
 ·exact⟨η,λw hw=>by simp at hw;subst hw;simp⟩
 ·unfold lp
  rw[if_pos hs.ck];refine⟨Nat.le_trans (fy _) IL.1,λw hw=>?_⟩;have:=List.all_eq_true.1 IL.2 w (ez.1 hw)
  simpa using this
theorem sH:(eh br.mres).length≤10∧∀ w,w∈eh br.mres→w.length≤7:=by
 have hs:=sG;obtain⟨e1,e2⟩:=UB;have hn:br.mres.nx.length=2:=by rw[sJ];rfl
 have hi:br.mres.inp.toNat=2:=by rw[sJ];rfl
 have hal:=jY hs.ok;have htl:=jW hs.ok;rw[hn,hi] at htl;rw[hn] at hal;have hA:(gZ br.mres).length≤6:=by
  have h1:=fy [cW br.mres,ef br.mres].flatten;have hfl:([cW br.mres,ef br.mres].flatten).length=(cW br.mres).length+(ef br.mres).length:=η;unfold gZ;omega
 have hP:(iW br.mres).length≤6:=by
  unfold iW Ad;rw[j9];unfold pdW;have h1:=oG (A:=wsS (gZ br.mres)) (B:=wsS (eY br.mres)) (wsS (gZ br.mres)).length (Υ _);have h2:(wsS (gZ br.mres)).length*(wsS (eY br.mres)).length≤6*1:=Nat.mul_le_mul (Nat.le_trans (fy _) hA) (Nat.le_trans (fy _) e1);omega
 have hU:(kR br.mres).length≤10:=by
  have h1:=fy [ef br.mres,iW br.mres].flatten;have hfl:([ef br.mres,iW br.mres].flatten).length=(ef br.mres).length+(iW br.mres).length:=η;unfold kR;omega
 refine⟨Nat.le_trans (Cc _) hU,λw hw=>?_⟩;have htw:∀ u,u∈ef br.mres→u.length≤3:=λu hu=>by have:=(sE hs.ok hu).2;omega
 rcases m7.1 (xH hw) with h|h
 ·have:=htw w h;omega
 ·obtain⟨u,e,hu,he,rfl⟩:=ou.1 h
  have h2:=e2 e he;rw[aq];rcases hu with hu|hu
  ·have:=nI hs.ok hu;omega
  ·have:=htw u hu;omega
theorem R7:∀ w,w∈eh br.mres→bQ w br.inp=0:=λw hw=>by
 have h1:=(sG.uOK.2 w (xH hw)).1;have h2:=sH.2 w hw;have hi:br.mres.inp=br.inp:=oS sf;rw[hi] at h1;exact KG δ δ ⟨ω,λi hi=>vd h1 i hi⟩
theorem uU:ofE br (eh br.mres)=0:=Lq sf (by have:=sH.1;omega) R7
theorem D7:OBF br (eh br.mres):=AG sf sG (by have:=sH.1;omega) (λw h=>h) uU
theorem O7:(ofT br (eh br.mres)).length≤10∧∀ u,u∈ofT br (eh br.mres)→u.1.length≤7:=by
 have hk:=Hw uU;have hw:=sH
 constructor
 ·rw[hk.xk]
  have:=v8 (X:=[]) (l:=(eh br.mres).map (trX br)) (k:=(eh br.mres).length) η;simp at this;omega
 ·intro u hu
  rw[hk.xk] at hu;rcases qS η u hu with h|⟨q,hq,h⟩
  ·cases h
  ·have:u=trX br ((eh br.mres).getD q []):=by rw[h];simp[List.getD,hq]
   rw[this];exact hw.2 _ (dn hq)
theorem MM:dY br.mres.inp (ofT br (eh br.mres))=0:=by
 obtain⟨h1,h2⟩:=O7;refine L7 (B:=7) (λk hk=>h2 _ (jk hk)) ?_;have:(ofT br (eh br.mres)).length*7≤10*7:=Nat.mul_le_mul_right _ h1;omega
theorem GH:PRK (leP br.mres.inp (ofT br (eh br.mres)))∧(leP br.mres.inp (ofT br (eh br.mres))).nx.length≤128∧kz (coM (leP br.mres.inp (ofT br (eh br.mres))) 0) br.mres=true:=ud sf sG (ws:=eh br.mres) (by have:=sH.1;omega) (λw h=>h) uU MM
theorem Km:kz (coM (leP br.mres.inp (ofT br (eh br.mres))) 0) br=true:=by
 have h:=GH.2.2;rw[zL] at h⊢;exact h.trans sJ
theorem QG {m:Mly}(hv:aK m=0)(h5:m.nx.length≤5)(h2:m.inp≤2):SMO m.mres:=by
 have hm:=fc hv;refine⟨sX hv,?_,by rw[oS hv];exact h2⟩;rw[oV hv];have h1:m.minm.nx.length=m.T.reps.length:=rJ m.T;have h3:=CQ m.T;have h4:m.T.nx.length=m.reach.length:=xZ m;have h6:=(gx hm).len;omega
def uni (m:Mly)(l:List (List Int)):List (List Int):=wsS [eh m.mres,l].flatten
theorem JB {m:Mly}(hs:SMO m.mres){l:List (List Int)}(hl:l.length≤20):([eh m.mres,l].flatten).length≤930∧(uni m l).length≤930∧∀ w,w∈eh m.mres→w∈uni m l:=by
 have h1:=hs.uOK.1;have h2:=Cc (kR m.mres);have hfl:([eh m.mres,l].flatten).length=(eh m.mres).length+l.length:=η;have h3:(eh m.mres).length≤910:=by unfold eh;omega
 refine⟨ω,?_,λw hw=>?_⟩
 ·unfold uni
  have:=fy [eh m.mres,l].flatten;omega
 ·unfold uni
  rw[ez];simp[hw]
theorem Qm {m:Mly}(hs:SMO m.mres){l:List (List Int)}(hl:∀ w,w∈l→w.length≤20):∀ w,w∈[eh m.mres,l].flatten→w.length≤1000000:=λw hw=>by
 have h:w∈eh m.mres∨w∈l:=by simpa using hw
 rcases h with h|h
 ·have:=(hs.uOK.2 w (xH h)).2;omega
 ·have:=hl w h;omega
theorem jZ (inp:Int)(T:List TRC):dY inp T=0∨dY inp T=11:=by
 unfold dY
 cases lj inp T<;>simp
theorem OBF.wl {m:Mly}{ws:List (List Int)}(h:OBF m ws):∀ k,k<(ofT m ws).length→((ofT m ws).getD k aT).1.length≤1000000:=λk hk=>by
 have:=(h.fit.lb _ (jk hk)).1;omega
theorem vI (w:List Int)(x:Int):[w,[x]].flatten.length=w.length+1:=η
def snS (l:List S3)(m s:Nat):List Bool:=(List.range m).map fun(t:Nat)=>inS l (s:Int) (t:Int)
theorem N5 (l:List S3)(m s:Nat):(snS l m s).length=m:=by simp[snS]
theorem RM {l:List S3}{m:Nat}{p q:Int}(hp:0≤p)(hq:0≤q∧q<m):(snS l m p.toNat).getD q.toNat false=inS l p q:=by
 have:q.toNat<m:=ω;unfold snS;rw[wG _ _ this,Int.toNat_of_nonneg hp,Int.toNat_of_nonneg hq.1]
theorem EB {l:List S3}{m:Nat}{p q:Int}{w:List Int}(hp:0≤p)(hq:0≤q∧q<m):snS (l++[(p,q,w)]) m p.toNat=(snS l m p.toNat).set q.toNat true:=by
 apply List.ext_getElem
 ·simp[snS]
 ·intro i h1 h2
  simp only[snS,List.getElem_set,List.getElem_map,List.getElem_range,inS,List.any_append,List.any_cons,List.any_nil,Bool.or_false]
  by_cases e:q.toNat=i
  ·rw[if_pos e]
   have:q=(i:Int):=ω;simp[this,Int.toNat_of_nonneg hp]
  ·rw[if_neg e]
   have:¬q=(i:Int):=ω;simp[this]
theorem wA {l:List S3}{m j:Nat}{p q:Int}{w:List Int}(hp:0≤p)(hj:j≠p.toNat):snS (l++[(p,q,w)]) m j=snS l m j:=by
 unfold snS;refine List.map_congr_left λt _=>?_;have:¬p=(j:Int):=ω;simp[inS,List.any_append,this]
theorem DY (m s:Nat):List.replicate m false=snS [] m s:=by
 apply List.ext_getElem<;>simp[snS,inS]
theorem C4 {cs:List AC}{off:Nat}{c:AC}(h:off<cs.length):cg cs off [c]=cs.set off c:=by
 unfold cg;rw[List.set_eq_take_append_cons_drop,if_pos h];simp
instance (k:IntKind)(n:Int):Decidable (inK k n):=by unfold inK;infer_instance
structure TB where
 td:Nat→Option TD
 el:Nat→Option EL
 st:Nat→Option (List (Nat×TypeId×Nat)×List AC)
structure TBok (P:Program)(T:TB):Prop where
 td:∀ t x,T.td t=some x→aN P t=some x
 el:∀ t x,T.el t=some x→fD P t=some x
 st:∀ t x,T.st t=some x→fd P t=some x
def arB (op:BinOp)(k:IntKind)(x y:Int):Option AV:=
 match op with
 | .add=>if inK k (x+y) then some (.one (.int k (x+y))) else none
 | .sub=>if inK k (x-y) then some (.one (.int k (x-y))) else none
 | .mul=>if inK k (x*y) then some (.one (.int k (x*y))) else none
 | .quo=>if y≠0∧inK k (x.tdiv y) then some (.one (.int k (x.tdiv y))) else none
 | .rem=>if y≠0 then some (.one (.int k (x.tmod y))) else none
 | .shr=>if 0≤y∧y<8 then some (.one (.int k (x / 2^y.toNat))) else none
 | .eql=>some (.one (.bool (decide (x=y))))
 | .neq=>some (.one (.bool (!decide (x=y))))
 | .lss=>some (.one (.bool (decide (x<y))))
 | .leq=>some (.one (.bool (decide (x≤y))))
 | .gtr=>some (.one (.bool (decide (y<x))))
 | .geq=>some (.one (.bool (decide (y≤x))))
 |_=>none
theorem Rk {op:BinOp}{k:IntKind}{x y:Int}{v:AV}(h:arB op k x y=some v):∃ p,cZ op k x y=some (p,v)∧p:=by
 unfold arB at h
 cases op<;>simp only[reduceCtorEq] at h<;>unfold cZ
 all_goals(first
  |(split at h
    ·rename_i hp;simp only[Λ] at h;subst h;exact⟨_,rfl,hp⟩
    ·cases h)
  |(simp only[Λ] at h;subst h;exact⟨_,rfl,trivial⟩))
section
variable {P:Program} {T:TB} {s:St} {out:Out}
def FS (T:TB)(s:St)(t:TypeId)(x:Operand):Option Out:=
 match T.td t with
 |some td=>match ev s.env x with
  | .one (.ptr k ver i off)=>match s.L[k]? with
    |some (.vars _ cs)=>match bZ td cs off with
     |some v=>if ver=0∧i=0 then some {av:=v,fp:=[k]} else none
     |none=>none
    |some (.row t _ v xs)=>match bZ td (acs t (xs.getD i t.dflt)) off with
     |some v'=>if ver=v∧i<List.length xs then some {av:=v',fp:=[k]} else none
     |none=>none
    |some (.rowc _ sz v cs)=>match cT td.k with
     |false=>if ver=v∧off<sz∧(i+1)*sz≤cs.length then some {av:=.one (cs.getD (i*sz+off) .junk),fp:=[k]} else none
     |true=>if ver=v∧i=0∧off=0∧td.size=sz∧cs.length=sz then some {av:=.agg cs,fp:=[k]} else none
    |_=>none
  | .one (.pat t d off)=>match bZ td (acs t d) off with
    |some v=>some {av:=v}
    |none=>none
  |_=>none
 |none=>none
theorem KQ (hT:TBok P T){t:TypeId}{x:Operand}(h:FS T s t x=some out):dR P s t x (λo=>o=out):=by
 unfold FS at h;split at h
 ·rename_i td h1
  unfold dR;rw[hT.td _ _ h1];simp only;split at h
  ·rename_i k ver i off h2
   rw[h2];simp only;split at h
   ·rename_i T' cs h3
    rw[h3];simp only;split at h
    ·rename_i v h4
     rw[h4];simp only;split at h
     ·rename_i h5;exact⟨h5,by simpa using h⟩
     ·cases h
    ·cases h
   ·rename_i t e v xs h3
    rw[h3];simp only;split at h
    ·rename_i v h4
     rw[h4];simp only;split at h
     ·rename_i h5;exact⟨h5,by simpa using h⟩
     ·cases h
    ·cases h
   ·rename_i e sz v cs h3
    rw[h3];simp only;split at h
    ·rename_i h4
     rw[h4];simp only;split at h
     ·rename_i h5;exact⟨h5,by simpa using h⟩
     ·cases h
    ·rename_i h4
     rw[h4];simp only;split at h
     ·rename_i h5;exact⟨h5,by simpa using h⟩
     ·cases h
   ·cases h
  ·rename_i t d off h2
   rw[h2];simp only;split at h
   ·rename_i v h4
    rw[h4];simpa using h
   ·cases h
  ·cases h
 ·cases h
def B8 (T:TB)(s:St)(t:TypeId)(x y:Operand):Option Out:=
 match T.td t with
 |some td=>match ev s.env x,cG (ev s.env y) with
  | .one (.ptr k ver i off),some new=>match s.L[k]? with
    |some (.vars T' cs)=>if ver=0∧i=0∧new.length=td.size∧off+td.size≤cs.length then some {av:=.undef,upd:=[(k,.vars T' (cg cs off new))],fp:=[k]} else none
    |some (.row t e v xs)=>match bq t (cg (acs t (xs.getD i t.dflt)) off new) with
     |some d=>if ver=v∧i<xs.length∧new.length=td.size∧off+td.size≤t.size then some {av:=.undef,upd:=[(k,.row t e ver (xs.set i d))],fp:=[k]} else none
     |none=>none
    |some (.rowc e sz v cs)=>if ver=v∧(i+1)*sz≤cs.length∧new.length=td.size∧off+td.size≤sz then some {av:=.undef,upd:=[(k,.rowc e sz ver (cg cs (i*sz+off) new))],fp:=[k]} else none
    |_=>none
  |_,_=>none
 |none=>none
theorem EZ (hT:TBok P T){t:TypeId}{x y:Operand}(h:B8 T s t x y=some out):fo P s t x y (λo=>o=out):=by
 unfold B8 at h;split at h
 ·rename_i td h1
  unfold fo;rw[hT.td _ _ h1];simp only;split at h
  ·rename_i k ver i off new h2 h2'
   rw[h2,h2'];simp only;split at h
   ·rename_i T' cs h3
    rw[h3];simp only;split at h
    ·rename_i h5;exact⟨h5,by simpa using h⟩
    ·cases h
   ·rename_i t e v xs h3
    rw[h3];simp only;split at h
    ·rename_i v h4
     rw[h4];simp only;split at h
     ·rename_i h5;exact⟨h5,by simpa using h⟩
     ·cases h
    ·cases h
   ·rename_i e sz v cs h3
    rw[h3];simp only;split at h
    ·rename_i h5;exact⟨h5,by simpa using h⟩
    ·cases h
   ·cases h
  ·cases h
 ·cases h
def MB:AC→Option Bool
 | .nils=>some true
 | .list _ (_::_)=>some false
 |_=>none
theorem DD {c:AC}{b:Bool}(h:MB c=some b):(c= .nils∧b=true)∨(c= .emp∧b=false)∨(∃ t xs,c= .list t xs∧0<List.length xs∧b=false):=by
 unfold MB at h;split at h
 ·cases h;exact .inl ⟨rfl,rfl⟩
 ·cases h;exact .inr (.inr ⟨_,_,rfl,η,rfl⟩)
 ·cases h
def NT (T:TB)(s:St)(op:BinOp)(t:TypeId)(x y:Operand):Option Out:=
 match ev s.env x,ev s.env y with
 | .one (.int k a),.one (.int k' b)=>if k=k' then(arB op k a b).map λv=>{av:=v} else none
 | .one (.bool a),.one (.bool b)=>match op,T.td t with
   | .eql,some td=>match td.k with| .bool=>some {av:=.one (.bool (decide (a=b)))}|_=>none
   | .neq,some td=>match td.k with| .bool=>some {av:=.one (.bool (!decide (a=b)))}|_=>none
   |_,_=>none
 | .one c,.one .nils=>match MB c,op,T.td t with
   |some b,.eql,some td=>match td.k with| .slice _=>some {av:=.one (.bool b)}|_=>none
   |some b,.neq,some td=>match td.k with| .slice _=>some {av:=.one (.bool (!b))}|_=>none
   |_,_,_=>none
 |_,_=>none
theorem Nb (hT:TBok P T){op:BinOp}{t:TypeId}{x y:Operand}(h:NT T s op t x y=some out):gT P s op t x y (λo=>o=out):=by
 unfold NT at h;split at h
 ·rename_i k a k' b h1 h2
  unfold gT;rw[h1,h2];simp only;split at h
  ·rename_i hk
   obtain⟨v,hv,e⟩:=Option.map_eq_some_iff.1 h;obtain⟨p,q1,q2⟩:=Rk hv;rw[q1];exact⟨hk,q2,e⟩
  ·cases h
 ·rename_i a b h1 h2
  unfold gT;rw[h1,h2];simp only;split at h
  ·rename_i td h3
   rw[hT.td _ _ h3];simp only;split at h
   ·rename_i h4;rw[h4];exact⟨trivial,by simpa using h⟩
   ·cases h
  ·rename_i td h3
   rw[hT.td _ _ h3];simp only;split at h
   ·rename_i h4;rw[h4];exact⟨trivial,by simpa using h⟩
   ·cases h
  ·cases h
 ·rename_i c h1 h2
  unfold gT;rw[h1,h2];simp only;split at h
  ·rename_i b td h3 h4
   rw[hT.td _ _ h4];simp only;split at h
   ·rename_i h5
    rw[h5];rcases DD h3 with⟨rfl,rfl⟩|⟨rfl,rfl⟩|⟨ty,xs,rfl,h6,rfl⟩
    ·exact⟨trivial,by simpa using h⟩
    ·exact⟨trivial,by simpa using h⟩
    ·exact⟨trivial,h6,by simpa using h⟩
   ·cases h
  ·rename_i b td h3 h4
   rw[hT.td _ _ h4];simp only;split at h
   ·rename_i h5
    rw[h5];rcases DD h3 with⟨rfl,rfl⟩|⟨rfl,rfl⟩|⟨ty,xs,rfl,h6,rfl⟩
    ·exact⟨trivial,by simpa using h⟩
    ·exact⟨trivial,by simpa using h⟩
    ·exact⟨trivial,h6,by simpa using h⟩
   ·cases h
  ·cases h
 ·cases h
def AX (T:TB)(s:St)(t:TypeId)(x:Operand)(lo hi mx:Option Operand):Option Out:=
 match mx,T.td t,ev s.env x with
 |none,some _,.one (.list t' xs)=>match T.el t,bnd (ev s.env) 0 lo,bnd (ev s.env) (List.length xs) hi with
  |some el,some l,some h=>if el.size=t'.size∧(0≤l∧l≤h∧h≤List.length xs) then some {av:=.one (.list t' ((List.take h.toNat xs).drop l.toNat))} else none
  |_,_,_=>none
 |none,some _,.one .nils=>match T.el t,bnd (ev s.env) 0 lo,bnd (ev s.env) 0 hi with
  |some _,some l,some h=>if l=0∧h=0 then some {av:=.one .nils} else none
  |_,_,_=>none
 |_,_,_=>none
theorem Gx (hT:TBok P T){t:TypeId}{x:Operand}{lo hi mx:Option Operand}(h:AX T s t x lo hi mx=some out):eZ P s t x lo hi mx (λo=>o=out):=by
 unfold AX at h;split at h
 ·rename_i td t' xs h1 h2
  unfold eZ;rw[hT.td _ _ h1,h2];simp only;split at h
  ·rename_i el l hh h3 h4 h5
   rw[hT.el _ _ h3,h4,h5];simp only;split at h
   ·rename_i h6;exact⟨h6.1,h6.2,by simpa using h⟩
   ·cases h
  ·cases h
 ·rename_i td h1 h2
  unfold eZ;rw[hT.td _ _ h1,h2];simp only;split at h
  ·rename_i el l hh h3 h4 h5
   rw[hT.el _ _ h3,h4,h5];simp only;split at h
   ·rename_i h6;exact⟨h6,by simpa using h⟩
   ·cases h
  ·cases h
 ·cases h
def o8 (T:TB)(s:St)(t:TypeId)(x:Operand)(f:Nat):Option Out:=
 match T.st t with
 |some (fs,_)=>match fs[f]?,ev s.env x with
  |some (off,_,_),.one (.ptr k ver i o1)=>match s.L[k]? with
   |some (.vars _ _)=>if ver=0 then some {av:=.one (.ptr k ver i (o1+off)),fp:=[k]} else none
   |some (.row _ _ v _)=>if ver=v then some {av:=.one (.ptr k ver i (o1+off)),fp:=[k]} else none
   |some (.rowc _ _ v _)=>if ver=v then some {av:=.one (.ptr k ver i (o1+off)),fp:=[k]} else none
   |_=>none
  |some (off,_,_),.one (.pat t' d o1)=>some {av:=.one (.pat t' d (o1+off))}
  |_,_=>none
 |none=>none
theorem xC (hT:TBok P T){t:TypeId}{x:Operand}{f:Nat}(h:o8 T s t x f=some out):cq P s t x f (λo=>o=out):=by
 unfold o8 at h;split at h
 ·rename_i fs z h1
  unfold cq;rw[hT.st _ _ h1];simp only;split at h
  ·rename_i off a b k ver i o1 h2 h3
   rw[h2,h3];simp only;split at h
   ·rename_i h4
    rw[h4];simp only;split at h
    ·rename_i h5;exact⟨h5,by simpa using h⟩
    ·cases h
   ·rename_i h4
    rw[h4];simp only;split at h
    ·rename_i h5;exact⟨h5,by simpa using h⟩
    ·cases h
   ·rename_i h4
    rw[h4];simp only;split at h
    ·rename_i h5;exact⟨h5,by simpa using h⟩
    ·cases h
   ·cases h
  ·rename_i off a b t' d o1 h2 h3
   rw[h2,h3];simpa using h
  ·cases h
 ·cases h
def nV (T:TB)(s:St)(t:TypeId)(x ix:Operand):Option Out:=
 match T.el t with
 |some el=>match ev s.env x,ev s.env ix with
  | .one (.list t xs),.one (.int _ i)=>if el.size=t.size∧(0≤i∧i<List.length xs) then some {av:=.one (.pat t (gt t xs i) 0)} else none
  | .one (.row r ver),.one (.int _ i)=>match s.L[r]? with
    |some (.row t _ v xs)=>if(ver=v∧el.size=t.size)∧(0≤i∧i<List.length xs) then some {av:=.one (.ptr r ver i.toNat 0),fp:=[r]} else none
    |_=>none
  | .one (.rwc r ver),.one (.int _ i)=>match s.L[r]? with
    |some (.rowc _ sz v cs)=>if(ver=v∧el.size=sz)∧(0≤i∧i*(sz:Int)<List.length cs) then some {av:=.one (.ptr r ver i.toNat 0),fp:=[r]} else none
    |_=>none
  |_,_=>none
 |none=>none
theorem xT (hT:TBok P T){t:TypeId}{x ix:Operand}(h:nV T s t x ix=some out):dq P s t x ix (λo=>o=out):=by
 unfold nV at h;split at h
 ·rename_i el h1
  unfold dq;rw[hT.el _ _ h1];simp only;split at h
  ·rename_i h2 h3
   rw[h2,h3];simp only;split at h
   ·rename_i h5;exact⟨h5.1,h5.2,by simpa using h⟩
   ·cases h
  ·rename_i h2 h3
   rw[h2,h3];simp only;split at h
   ·rename_i h4
    rw[h4];simp only;split at h
    ·rename_i h5;exact⟨h5.1,h5.2,by simpa using h⟩
    ·cases h
   ·cases h
  ·rename_i h2 h3
   rw[h2,h3];simp only;split at h
   ·rename_i h4
    rw[h4];simp only;split at h
    ·rename_i h5;exact⟨h5.1,h5.2,by simpa using h⟩
    ·cases h
   ·cases h
  ·cases h
 ·cases h
def Gg (T:TB)(s:St)(x:Operand)(ats:Array TypeId):Option Out:=
 match ats[0]? with
 |some t=>match ev s.env x with
  | .one (.mpv _)=>none
  | .one c=>match T.td t,cY s.L c with
    |some td,some n=>if dC td.k c=true then some {av:=.one (.int .i64 (n:Int)),fp:=fa c} else none
    |_,_=>none
  |_=>none
 |none=>none
theorem LM (hT:TBok P T){x:Operand}{ats:Array TypeId}(h:Gg T s x ats=some out):ff P s x ats (λo=>o=out):=by
 unfold Gg at h;split at h
 ·rename_i t h1
  unfold ff;rw[h1];simp only;split at h
  ·cases h
  ·rename_i c hn h2
   rw[h2];split at h
   ·rename_i td n h3 h4
    split at h
    ·rename_i h5
     cases c with
     |mpv k=>exact absurd rfl (hn k)
     |_=>simp only[hT.td _ _ h3,h4];exact⟨h5,by simpa using h⟩
    ·cases h
   ·cases h
  ·cases h
 ·cases h
end
section
variable {C:Ctx} {L0:List AO} {o:Oper} {opn:Operand→AV}
theorem ye {T e:TypeId}{td te:TD}{x y:Operand}{ats:Array TypeId}{t:Ty}{ys:List t.den}{c:AC}(ho:o.op= .call {callee:=.builtin .append,args:=#[x,y],argTypes:=ats})(ha:ats= #[T,T])
 (ht:aN C.P T=some td) (hk:td.k= .slice e) (hte:aN C.P e=some te) (hsz:te.size=t.size) (hz:te.zero.length=t.size) (h0:0<t.size)
 (hx':opn x= .one .nils) (hy':opn y= .one c) (hs:di t c=some ys) (hlen:ys.length*te.bytes≤140737488355328) (hml:ys.length≤9223372036854775807):
 bG C L0 o opn {av:=.one (.row L0.length 0),new:=[.row t e 0 ys]}:=by
 intro L σ w ρ hi hx hfp hl;have hx1:=hx x (by simp[ho,Op.operands,Call.operands]);have hx2:=hx y (by simp[ho,Op.operands,Call.operands]);rw[hx'] at hx1;rw[hy'] at hx2;have e1:ρ x= .slice none 0 0:=hx1.2;have hown:w.ownsRow 0 e t.size (.slice none 0 0) ([]:List t.den).length []:=World.ownsRow_nil w 0 e t.size;obtain⟨v',w',flat',r1,r2,r3,r4,r5,r6⟩:=uh (C:=C) (L:=L) (σ:=σ) ht hk hte hsz hz h0 hown (qF hs hx2) (by simpa using hlen) (by simpa using hml) o.type;have hblk':blk v'=v'.ownBlock:=gE (dX r2);simp only[ho,ha,execOp,resolve,invoke,builtin,e1,Sem.run_bind,Sem.run_pure,Result.andThen_ok,List.map_toArray,aJ,aV,r1,bI];rw[← hl];refine eE (g:=v') hi r3.size r3.os r3.tape r3.output (λb hb=>r3.block b hb (by simp[Value.ownBlock])) (λb hb=>?_) (λhp=>?_) ?_
 ·rw[hblk'] at hb
  rcases r4 with r4|r4
  ·rw[r4] at hb;simp[Value.ownBlock] at hb
  ·rw[r4] at hb;simp only[Λ] at hb;omega
 ·refine⟨flat',by rw[aR];simpa using r2,h0,λi hil=>?_⟩
  have h8:=r6 i (by simpa using hil);simp only[aF,Nat.zero_add] at h8;exact h8.keep r3.size (λb hb _=>r3.block b hb (by simp[Value.ownBlock])) (λb hb ha=>by
   rcases ha with hx|⟨k,ob,q1,q2,q3⟩
   ·exact .inl hx
   ·refine .inr ⟨k,?_⟩
    by_cases hk2:k<L.length
    ·rw[List.getElem?_append_left hk2] at q1
     rw[d6 σ v' ω] at q3;exact⟨ob,q1,q2,q3⟩
    ·have:k=L.length:=by
      have:=(Δ.1 q1).1;simp at this;omega
     subst this;rw[aR,hblk'] at q3;rcases r4 with r4|r4
     ·rw[r4] at q3;simp[Value.ownBlock] at q3
     ·rw[r4] at q3;simp only[Λ] at q3;omega)
 ·refine⟨?_,.row t e 0 ys,η,Υ _,λ_ _=>⟨⟨_,_,_,rfl⟩,(aR _ _ _).symm⟩⟩
  rcases r2.2 with⟨rfl,_⟩|⟨g,cap,cur,rfl,_⟩<;>rfl
end
section
variable {P:Program} {T:TB} {s:St} {out:Out}
def C1 (T:TB)(s:St)(t:TypeId)(aU:Array (Nat×Operand)):Option Out:=
 match T.st t with
 |some (fs,z)=>(cu (fun(i:Nat)=>(fs[i]?).map fun(f:Nat×TypeId×Nat)=>(f.1,f.2.2)) (ev s.env) z aU.toList).map λcs=>{av:=.agg cs}
 |none=>none
theorem FU (hT:TBok P T){t:TypeId}{aU:Array (Nat×Operand)}(h:C1 T s t aU=some out):kn P s t aU (λo=>o=out):=by
 unfold C1 at h;split at h
 ·rename_i fs z h1
  obtain⟨cs,h2,e⟩:=Option.map_eq_some_iff.1 h;unfold kn;rw[hT.st _ _ h1];simp only;rw[h2];exact e
 ·cases h
def mm (T:TB)(own:Bool)(s:St)(t:TypeId)(n:Nat)(aU:Array (Nat×Operand)):Option Out:=
 match T.el t with
 |some el=>match cu (λi=>some (i*el.size,el.size)) (ev s.env) (rep el.zero n) aU.toList with
  |some cs=>match eF el.t n cs with
   |some xs=>if n*el.size≤16777216 then some (if own then {av:=.one (.row s.L.length 0),new:=[.row el.t el.e 0 xs]} else {av:=.one (.list el.t xs)}) else none
   |none=>none
  |none=>none
 |none=>none
theorem uH (hT:TBok P T){own:Bool}{t:TypeId}{n:Nat}{aU:Array (Nat×Operand)}(h:mm T own s t n aU=some out):gd P s t n aU (λo=>o=out):=by
 unfold mm at h;split at h
 ·rename_i el h1
  unfold gd;rw[hT.el _ _ h1];simp only;split at h
  ·rename_i cs h2
   rw[h2];simp only;split at h
   ·rename_i xs h3
    rw[h3];simp only;split at h
    ·rename_i h4
     refine⟨h4,?_⟩
     cases own
     ·exact .inl (by simpa using h)
     ·exact .inr (.inl (by simpa using h))
    ·cases h
   ·cases h
  ·cases h
 ·cases h
def og (T:TB)(own:Bool)(s:St)(t:TypeId)(x y:Operand):Option Out:=
 match T.el t with
 |some el=>match ev s.env x,ev s.env y,bq el.t el.zero with
  | .one (.int _ n),.one (.int _ c),some z0=>if 0≤n∧n≤c∧(el.bytes:Int)*c≤281474976710656∧c≤9223372036854775807 then some (if own then {av:=.one (.rwc s.L.length 0),new:=[.rowc el.e el.size 0 (rep el.zero n.toNat)]} else {av:=.one (.row s.L.length 0),new:=[.row el.t el.e 0 (List.replicate n.toNat z0)]}) else none
  |_,_,_=>none
 |none=>none
theorem vP (hT:TBok P T){own:Bool}{t:TypeId}{x y:Operand}(h:og T own s t x y=some out):cH P s t x y (λo=>o=out):=by
 unfold og at h;split at h
 ·rename_i el h1
  unfold cH;rw[hT.el _ _ h1];simp only;split at h
  ·rename_i h2 h3 h4
   rw[h2,h3,h4];simp only;split at h
   ·rename_i h5
    refine⟨h5,?_⟩
    cases own
    ·exact .inl (by simpa using h)
    ·exact .inr (.inl (by simpa using h))
   ·cases h
  ·cases h
 ·cases h
def vW (T:TB)(s:St)(x y:Operand)(ats:Array TypeId):Option Out:=
 match ats.toList with
 |[t,t']=>match T.el t with
  |some el=>match ev s.env x,ev s.env y with
   | .one (.row k ver),.one c=>match s.L[k]? with
     |some (.row ty e v xs)=>match di ty c with
      |some ys=>if(t=t'∧ver=v∧e=el.e∧el.size=ty.size)∧((List.length xs+List.length ys)*el.bytes≤140737488355328∧List.length xs+List.length ys≤9223372036854775807) then some {av:=.one (.row k (ver+1)),upd:=[(k,.row ty e (ver+1) (xs++ys))],fp:=[k]} else none
      |none=>none
     |_=>none
   |_,_=>none
  |none=>none
 |_=>none
theorem E8 (hT:TBok P T){x y:Operand}{ats:Array TypeId}(h:vW T s x y ats=some out):cV P s x y ats (λo=>o=out):=by
 unfold vW at h;split at h
 ·rename_i t t' h1
  unfold cV;rw[h1];simp only;split at h
  ·rename_i el h2
   rw[hT.el _ _ h2];simp only;split at h
   ·rename_i k ver c h3 h4
    rw[h3,h4];simp only;split at h
    ·rename_i h5
     rw[h5];simp only;split at h
     ·rename_i h6
      rw[h6];simp only;split at h
      ·rename_i h7;exact⟨h7.1,h7.2,.inl (by simpa using h)⟩
      ·cases h
     ·cases h
    ·cases h
   ·cases h
  ·cases h
 ·cases h
def sU (T:TB)(s:St)(x y:Operand)(ats:Array TypeId):Option Out:=
 match ats.toList with
 |[t,t']=>match T.el t with
  |some el=>match ev s.env x,ev s.env y with
   | .one .nils,.one c=>match di el.t c with
     |some ys=>if(t=t'∧el.size=el.t.size)∧(List.length ys*el.bytes≤140737488355328∧List.length ys≤9223372036854775807) then some {av:=.one (.row s.L.length 0),new:=[.row el.t el.e 0 ys]} else none
     |none=>none
   |_,_=>none
  |none=>none
 |_=>none
theorem Bx (hT:TBok P T){o:Oper}{x y:Operand}{ats:Array TypeId}(ho:o.op= .call {callee:=.builtin .append,args:=#[x,y],argTypes:=ats})(h:sU T s x y ats=some out):∀ C:Ctx,C.P=P→bG C s.L o (ev s.env) out:=by
 intro C hC;unfold sU at h;split at h
 ·rename_i t t' h1
  split at h
  ·rename_i el h2
   split at h
   ·rename_i c h3 h4
    split at h
    ·rename_i ys h5
     split at h
     ·rename_i h7
      obtain⟨⟨rfl,h8⟩,h9,h10⟩:=h7;obtain⟨td,te,a1,a2,a3,a4,a5,a6,a7,a8,a9⟩:=iR (hT.el _ _ h2);simp only[Λ] at h;subst h;subst hC;have ha:ats= #[t,t]:=by
       rw[← Array.toArray_toList (xs:=ats),h1]
      exact ye ho ha a1 a2 a3 a7 (a8.trans a7) ω h3 h4 h5 (by rw[a5];exact h9) h10
     ·cases h
    ·cases h
   ·cases h
  ·cases h
 ·cases h
end
theorem EW {P:Program}(w:World)(dT sT ty elem:TypeId)(g dLen dCap:Nat)(a:Addr)(sLen sCap:Nat)(cur:Array Value)(t:TypeId)(cs:List Value)(k sz:Nat)
 (hu:P.underlying dT=some (.slice elem)) (hs:∀ w,(sizeOf elem).run P w= .ok sz w)
 (hg:w.heap[g]? =some (.cells cur t (0,0))) (hk:Nat.min sLen dLen=k) (hn:cs.length=k*sz)
 (hsrc:∀ j v,cs[j]? =some v→w.cell? (a.add j)=some v) (hfit:cs.length≤cur.size) (h1:∀ v∈cs,v.oneCell'=true):
 (Builtin.copy_ #[dT,sT] ty #[.slice (some ⟨g,0,none⟩) dLen dCap,.slice (some a) sLen sCap]).run P w=
   .ok (goInt k) (w.setRow g (cs++cur.toList.drop cs.length).toArray):=by
 have hl:=run_firstCells_some (P:=P) w sz k a sLen sCap cs hn hsrc;have hst:=run_storeCells_at P g 0 t cs 0 cur w hg (by simpa using hfit) h1;simp only[Nat.add_zero] at hst;subst hk;simp[Builtin.copy_,run_underlying hu,Builtin.lenOf,hs,hl,hst]
section
variable {C:Ctx} {L0:List AO} {o:Oper} {opn:Operand→AV}
theorem Fq {dT sT e:TypeId}{td te:TD}{x y:Operand}{k ver:Nat}{t:Ty}{e':TypeId}{xs ys:List t.den}(ho:o.op= .call {callee:=.builtin .copy,args:=#[x,y],argTypes:=#[dT,sT]})
 (ht:aN C.P dT=some td) (hk:td.k= .slice e) (hte:aN C.P e=some te) (hsz:te.size=t.size) (hx':opn x= .one (.row k ver)) (hob:L0[k]? =some (.row t e' ver xs)) (hy':opn y= .one (.list t ys)) (hl:ys.length=xs.length) (hpos:0<xs.length):
 bG C L0 o opn {av:=.one (.int .i64 (xs.length:Int)),upd:=[(k,.row t e' ver ys)],fp:=[k]}:=by
 intro L σ w ρ hi hx hfp hlen;have hx1:=hx x (by simp[ho,Op.operands,Call.operands]);have hx2:=hx y (by simp[ho,Op.operands,Call.operands]);rw[hx'] at hx1;rw[hy'] at hx2;have hob':L[k]? =some (.row t e' ver xs):=by rw[hfp k η];exact hob
 obtain⟨ob,h2,h3,h4⟩:=hx1.2;rw[hob'] at h2;cases h2;obtain⟨_,e1⟩:=h4 rfl rfl;obtain⟨flat,h5,h6,h7⟩:=hi.ob k _ hob';have hb:∃ b,blk (σ k)=some b:=by
  rcases h5.2 with⟨_,q⟩|⟨g,cap,cur,q,_⟩
  ·omega
  ·exact⟨g,by rw[q];rfl⟩
 obtain⟨b,hb⟩:=hb;obtain⟨cap,cur,e2,e3,e4,e5,e6,e7⟩:=ik h5 hb;obtain⟨A,c,q1,q2,q3,q4⟩:=hx2.2;simp only[List.cons.injEq,and_true] at q1;obtain⟨b2,o2,rfl,q5,q6,q7⟩:=q4 ω;obtain⟨news,n1,n2,n3,n4⟩:=oK h6 q7;have hown:own L σ k b:=⟨_,hob',rfl,hb⟩
 have hmul:xs.length*t.size≤cap*t.size:=Nat.mul_le_mul_right _ e4;obtain⟨d,hd1,hd2,hd3⟩:=bS ht w;rw[hk] at hd2;have hd:=bW hd2;subst hd;have hrun:=EW (P:=C.P) w dT sT o.type e b xs.length cap ⟨b2,o2,none⟩ ys.length c cur e' news xs.length t.size hd3 (λw=>by rw[← hsz];exact bT hte w) e3 (by rw[hl];exact Nat.min_self _) (by rw[n1,hl]) n2 (by rw[n1,hl,e6];exact hmul) n3;simp only[ho,execOp,resolve,invoke,builtin,e1,e2,q1,Sem.run_bind,Sem.run_pure,Result.andThen_ok,List.map_toArray,aJ,aV,hrun,bI];refine cI (σ':=σ) hi hob' (by rw[ja];exact Υ _) rfl rfl rfl
  (λj hj hno=>eU (λe=>by subst e;exact hno hown)) (λ_ _=>rfl) ⟨Υ _,λ_ _=>⟨rfl,rfl,rfl,⟨_,rfl⟩⟩⟩
  (λ_ j hj=>.inl ⟨_,hob',rfl,hj⟩) (λhp hav=>?_) (λ_ _=>⟨rfl,rfl⟩)
 refine⟨news,⟨by rw[n1],.inr ⟨b,cap,_,by rw[e2,hl],Nat.zero_le _,i6 e3,by rw[hl];exact e4,e5,by simp[n1,hl,e6];omega,?_⟩⟩,h6,λi hil=>?_⟩
 ·rw[hl,← hl,← n1]
  simp
 ·exact(n4 i hil).keep (by rw[ja];exact Υ _) (λq hq ha=>eU (λe=>by subst e;exact ha (.inr ⟨k,hown⟩))) hav
end
section
variable {P:Program} {T:TB} {s:St} {out:Out}
def Fp (T:TB)(s:St)(x y:Operand)(ats:Array TypeId):Option Out:=
 match ats.toList with
 |[t,_]=>match T.el t with
  |some el=>match ev s.env x,ev s.env y with
   | .one (.row k ver),.one (.list t2 ys)=>match s.L[k]? with
     |some (.row t1 e v xs)=>if h:t2=t1 then(if ver=v∧el.size=t1.size∧List.length ys=xs.length∧0<xs.length then some {av:=.one (.int .i64 (xs.length:Int)),upd:=[(k,.row t1 e v (h▸ys))],fp:=[k]} else none) else none
     |_=>none
   |_,_=>none
  |none=>none
 |_=>none
theorem Le (hT:TBok P T){o:Oper}{x y:Operand}{ats:Array TypeId}(ho:o.op= .call {callee:=.builtin .copy,args:=#[x,y],argTypes:=ats})(h:Fp T s x y ats=some out):∀ C:Ctx,C.P=P→bG C s.L o (ev s.env) out:=by
 intro C hC;unfold Fp at h;split at h
 ·rename_i t t' h1
  split at h
  ·rename_i el h2
   split at h
   ·rename_i k ver t2 ys h3 h4
    split at h
    ·rename_i t1 e v xs h5
     split at h
     ·rename_i ht
      subst ht;split at h
      ·rename_i h7
       obtain⟨rfl,h8,h9,h10⟩:=h7;obtain⟨td,te,a1,a2,a3,a4,a5,a6,a7,a8,a9⟩:=iR (hT.el _ _ h2);simp only[Λ] at h;subst h;subst hC;have ha:ats= #[t,t']:=by
        rw[← Array.toArray_toList (xs:=ats),h1]
       subst ha;exact Fq ho a1 a2 a3 (a4.trans h8) h3 h5 h4 h9 h10
      ·cases h
     ·cases h
    ·cases h
   ·cases h
  ·cases h
 ·cases h
end
section
variable {P:Program} {T:TB} {s:St} {out:Out}
def G7 (s:St)(c a b:Operand):Option Out:=
 match ev s.env c with
 | .one (.bool t)=>some (if t then {av:=ev s.env a} else {av:=ev s.env b})
 |_=>none
theorem Kp {c a b:Operand}(h:G7 s c a b=some out):mG s c a b (λo=>o=out):=by
 unfold G7 at h;unfold mG;split at h
 ·rename_i t hc
  rw[hc];simp only[Λ] at h;subst h;exact⟨λe=>by subst e;rfl,λe=>by subst e;rfl⟩
 ·cases h
def Aw (T:TB)(own:Bool)(s:St)(t:TypeId):Option Out:=
 match T.td t with
 |some td=>match own with
  |false=>some {av:=.one (.ptr s.L.length 0 0 0),new:=[.vars t td.zero]}
  |true=>match s.L[s.L.length-1]? with
   |some (.dead 0)=>if 0<td.size∧td.zero.length=td.size then some {av:=.one (.ptr (s.L.length-1) 1 0 0),upd:=[(s.L.length-1,.rowc t td.size 1 td.zero)],fp:=[s.L.length-1]} else none
   |_=>none
 |none=>none
theorem Gq (hT:TBok P T){own:Bool}{t:TypeId}(h:Aw T own s t=some out):kH P s t (λo=>o=out):=by
 unfold Aw at h;split at h
 ·rename_i td h1
  unfold kH;rw[hT.td _ _ h1];split at h
  ·exact .inl (by simpa using h)
  ·split at h
   ·rename_i h2
    split at h
    ·rename_i h3
     exact .inr (.inr ⟨_,h2,h3.1,h3.2,by simpa using h⟩)
    ·cases h
   ·cases h
 ·cases h
def OT (s:St)(t:TypeId)(x:Operand):Option Out:=
 match cG (ev s.env x) with
 |some cs=>some {av:=.one (.ptr s.L.length 0 0 0),new:=[.vars t cs]}
 |none=>none
theorem Mj {t:TypeId}{x:Operand}(h:OT s t x=some out):sd s t x (λo=>o=out):=by
 unfold OT at h;unfold sd;split at h
 ·rename_i cs h1;rw[h1];simpa using h
 ·cases h
def Mc (s:St)(x:Operand):Option Out:=
 match ev s.env x with
 | .one (.ptr k 0 i off)=>match s.L[k]? with
   |some (.vars _ _)=>some {av:=.one (.ptr k 0 i off),fp:=[k]}
   |_=>none
 | .one (.pat t d off)=>some {av:=.one (.pat t d off),fp:=[]}
 |_=>none
theorem Qd {x:Operand}(h:Mc s x=some out):pN s x (λo=>o=out):=by
 unfold Mc at h;unfold pN;split at h
 ·rename_i k i off h1
  rw[h1];simp only;split at h
  ·rename_i h2;rw[h2];simpa using h
  ·cases h
 ·rename_i h1;rw[h1];simpa using h
 ·cases h
def sUn (s:St)(op:UnOp)(x:Operand):Option Out:=
 match op,ev s.env x with
 | .not,.one (.bool a)=>some {av:=.one (.bool (!a))}
 |_,_=>none
theorem R3 {op:UnOp}{x:Operand}(h:sUn s op x=some out):tD s op x (λo=>o=out):=by
 unfold sUn at h;unfold tD;split at h
 ·rename_i a h1;rw[h1];simpa using h
 ·cases h
def rW (s:St)(x:Operand)(i:Nat):Option Out:=
 match ev s.env x with
 | .tup vs=>match vs[i]? with
   |some (.tup _)=>none
   |some v=>some {av:=v}
   |none=>none
 |_=>none
theorem AF {x:Operand}{i:Nat}(h:rW s x i=some out):gG s x i (λo=>o=out):=by
 unfold rW at h;unfold gG;split at h
 ·rename_i vs h1
  rw[h1];simp only;split at h
  ·cases h
  ·rename_i v hn h2
   rw[h2]
   cases v with
   |tup _=>exact absurd rfl (hn _)
   |_=>simpa using h
  ·cases h
 ·cases h
def q9 (s:St)(fn:Fn)(first caps:Array Operand):Option Out:=
 match fn,first.toList,iJ (caps.toList.map (ev s.env)) with
 | .func f,[],some ks=>some {av:=.one (.fn f ks)}
 |_,_,_=>none
theorem yj {fn:Fn}{first caps:Array Operand}(h:q9 s fn first caps=some out):fv s fn first caps (λo=>o=out):=by
 unfold q9 at h;unfold fv;split at h
 ·rename_i f ks h1 h2;rw[h1,h2];simpa using h
 ·cases h
def B2 (T:TB)(s:St)(t:TypeId)(x:Operand)(f:Nat):Option Out:=
 match T.st t with
 |some (fs,_)=>match fs[f]?,ev s.env x with
  |some (off,ft,_),.agg cs=>match T.td ft with
   |some tf=>match bZ tf cs off with
    |some v=>some {av:=v}
    |none=>none
   |none=>none
  |_,_=>none
 |none=>none
theorem FD (hT:TBok P T){t:TypeId}{x:Operand}{f:Nat}(h:B2 T s t x f=some out):ki P s t x f (λo=>o=out):=by
 unfold B2 at h;split at h
 ·rename_i fs z h1
  unfold ki;rw[hT.st _ _ h1];simp only;split at h
  ·rename_i off ft sz cs h2 h3
   rw[h2,h3];simp only;split at h
   ·rename_i tf h4
    rw[hT.td _ _ h4];simp only;split at h
    ·rename_i v h5;rw[h5];simpa using h
    ·cases h
   ·cases h
  ·cases h
 ·cases h
def Bt (T:TB)(s:St)(t:TypeId)(x ix:Operand):Option Out:=
 match T.td t with
 |some td=>match td.k,ev s.env x,ev s.env ix with
  | .str,.one (.str l),.one (.int _ i)=>if 0≤i∧i<List.length l then some {av:=.one (.int .u8 ((List.getD l i.toNat 0).toNat:Int))} else none
  |_,_,_=>none
 |none=>none
theorem Gb (hT:TBok P T){t:TypeId}{x ix:Operand}(h:Bt T s t x ix=some out):gV P s t x ix (λo=>o=out):=by
 unfold Bt at h;split at h
 ·rename_i td h1
  unfold gV;rw[hT.td _ _ h1];simp only;split at h
  ·rename_i l k i h2 h3 h4
   rw[h2,h3,h4];simp only;split at h
   ·rename_i h5;exact⟨h5,by simpa using h⟩
   ·cases h
  ·cases h
 ·cases h
def G5 (T:TB)(s:St)(t t':TypeId)(x:Operand):Option Out:=
 match T.td t,T.td t' with
 |some td,some td'=>match td'.k,ev s.env x with
  | .int k',.one (.int _ n)=>if inK k' n then some {av:=.one (.int k' n)} else none
  |_,_=>none
 |_,_=>none
theorem Ll (hT:TBok P T){t t':TypeId}{x:Operand}(h:G5 T s t t' x=some out):eJ P s t t' x (λo=>o=out):=by
 unfold G5 at h;split at h
 ·rename_i td td' h1 h2
  unfold eJ;rw[hT.td _ _ h1,hT.td _ _ h2];simp only;split at h
  ·rename_i k' k n h3 h4
   rw[h3,h4];simp only;split at h
   ·rename_i h5;exact⟨h5,by simpa using h⟩
   ·cases h
  ·cases h
 ·cases h
def sMM (s:St)(mx:Bool)(x y:Operand):Option Out:=
 match ev s.env x,ev s.env y with
 | .one (.int k a),.one (.int k' b)=>if k=k' then some {av:=.one (.int k (if mx then max a b else min a b))} else none
 |_,_=>none
theorem IB {mx:Bool}{x y:Operand}(h:sMM s mx x y=some out):gm s mx x y (λo=>o=out):=by
 unfold sMM at h;split at h
 ·rename_i h1 h2
  unfold gm;rw[h1,h2];simp only;split at h
  ·rename_i hk;exact⟨hk,by simpa using h⟩
  ·cases h
 ·cases h
def Oe (call:List AO→FuncId→List AV→Option Out)(s:St)(g:Operand)(ys:Array Operand):Option Out:=
 match ev s.env g with
 | .one (.fn f caps)=>call s.L f (ys.toList.map (ev s.env)++caps.map dG)
 |_=>none
def sOp (T:TB)(own:Bool)(call:Bool→List AO→FuncId→List AV→Option Out)(s:St)(o:Oper):Option Out:=
 match o.op with
 | .move x=>some {av:=ev s.env x}
 | .assign x=>some {av:=ev s.env x}
 | .pick c a b=>G7 s c a b
 | .alloc t=>Aw T own s t
 | .box t x=>OT s t x
 | .build t aU=>C1 T s t aU
 | .buildSlice t n aU=>mm T own s t n aU
 | .load t x=>FS T s t x
 | .store t x y=>B8 T s t x y
 | .nilCheck x=>Mc s x
 | .binOp op t x y _=>NT T s op t x y
 | .unOp op _ x=>sUn s op x
 | .extract x i=>rW s x i
 | .makeFunc fn first caps=>q9 s fn first caps
 | .makeSlice t x y=>og T own s t x y
 | .slice t x lo hi mx=>AX T s t x lo hi mx
 | .fieldAddr t x f=>o8 T s t x f
 | .field t x f=>B2 T s t x f
 | .indexAddr t x ix=>nV T s t x ix
 | .convert t t' x=>G5 T s t t' x
 | .index t x ix=>Bt T s t x ix
 | .call {callee:=.value g,args:=ys,argTypes:=_}=>Oe (call own) s g ys
 | .call {callee:=.builtin b,args:=ys,argTypes:=ats}=>match b,ys.toList with
   | .len,[x]=>Gg T s x ats
   | .append,[x,y]=>match ev s.env x with
     | .one .nils=>sU T s x y ats
     |_=>vW T s x y ats
   | .max,[x,y]=>sMM s true x y
   | .min,[x,y]=>sMM s false x y
   | .copy,[x,y]=>Fp T s x y ats
   |_,_=>none
 |_=>none
theorem dN {o:Oper}(h:op1 P s o (λx=>x=out)):∀ C:Ctx,C.P=P→bG C s.L o (ev s.env) out:=by
 intro C hC;subst hC;obtain⟨_,h1,rfl⟩:=wi h;exact h1
theorem RA (hT:TBok P T){own:Bool}{call:Bool→List AO→FuncId→List AV→Option Out}(hcall:∀ f args out,call own s.L f args=some out→cS P s.L f args out){o:Oper}(h:sOp T own call s o=some out):
 ∀ C:Ctx,C.P=P→bG C s.L o (ev s.env) out:=by
 unfold sOp at h;split at h
 case h_1 x ho=>exact dN (by unfold op1;rw[ho];simpa using h)
 case h_2 x ho=>exact dN (by unfold op1;rw[ho];simpa using h)
 case h_3 ho=>exact dN (by unfold op1;rw[ho];exact Kp h)
 case h_4 ho=>exact dN (by unfold op1;rw[ho];exact Gq hT h)
 case h_5 ho=>exact dN (by unfold op1;rw[ho];exact Mj h)
 case h_6 ho=>exact dN (by unfold op1;rw[ho];exact FU hT h)
 case h_7 ho=>exact dN (by unfold op1;rw[ho];exact uH hT h)
 case h_8 ho=>exact dN (by unfold op1;rw[ho];exact KQ hT h)
 case h_9 ho=>exact dN (by unfold op1;rw[ho];exact EZ hT h)
 case h_10 ho=>exact dN (by unfold op1;rw[ho];exact Qd h)
 case h_11 ho=>exact dN (by unfold op1;rw[ho];exact Nb hT h)
 case h_12 ho=>exact dN (by unfold op1;rw[ho];exact R3 h)
 case h_13 ho=>exact dN (by unfold op1;rw[ho];exact AF h)
 case h_14 ho=>exact dN (by unfold op1;rw[ho];exact yj h)
 case h_15 ho=>exact dN (by unfold op1;rw[ho];exact vP hT h)
 case h_16 ho=>exact dN (by unfold op1;rw[ho];exact Gx hT h)
 case h_17 ho=>exact dN (by unfold op1;rw[ho];exact xC hT h)
 case h_18 ho=>exact dN (by unfold op1;rw[ho];exact FD hT h)
 case h_19 ho=>exact dN (by unfold op1;rw[ho];exact xT hT h)
 case h_20 ho=>exact dN (by unfold op1;rw[ho];exact Ll hT h)
 case h_21 ho=>exact dN (by unfold op1;rw[ho];exact Gb hT h)
 case h_22 g ys ats ho=>
  unfold Oe at h;split at h
  ·rename_i f caps hg
   intro C hC;subst hC;exact wE ho hg (hcall _ _ _ h)
  ·cases h
 case h_23 b ys ats ho=>
  split at h
  ·rename_i x has
   exact dN (by unfold op1;rw[ho];unfold cC;simp only[has];exact LM hT h)
  ·rename_i x y has
   split at h
   ·refine Bx (P:=P) hT (x:=x) (y:=y) (ats:=ats) ?_ h
    rw[ho,← Array.toArray_toList (xs:=ys),has]
   ·exact dN (by unfold op1;rw[ho];unfold cC;simp only[has];exact E8 hT h)
  ·rename_i x y has
   exact dN (by unfold op1;rw[ho];unfold cC;simp only[has];exact IB h)
  ·rename_i x y has
   exact dN (by unfold op1;rw[ho];unfold cC;simp only[has];exact IB h)
  ·rename_i x y has
   refine Le (P:=P) hT (x:=x) (y:=y) (ats:=ats) ?_ h;rw[ho,← Array.toArray_toList (xs:=ys),has]
  ·cases h
 case h_24=>cases h
end
def kV (C:Ctx)(s s':St):Prop:=∀ σ a w,REL C s σ a w→∃ σ',REL C s' σ' a w
theorem kV.refl (C:Ctx)(s:St):kV C s s:=λσ _ _ h=>⟨σ,h⟩
theorem kV.trans {C:Ctx}{s s1 s2:St}(h:kV C s s1)(k:kV C s1 s2):kV C s s2:=λσ a w hr=>by
 obtain⟨σ1,h1⟩:=h σ a w hr;exact k σ1 a w h1
theorem A7 {C:Ctx}{c:Code}{Q:Exit→St→Prop}{s s':St}(hs:kV C s s')(h:AWP C c Q s'):AWP C c Q s:=λσ a w hr=>by
 obtain⟨σ1,h1⟩:=hs σ a w hr;exact h σ1 a w h1
section
variable (k ver:Nat) (t:Ty) (xs:List t.den)
def fr1:AV→AV
 | .one c=>.one (frC k ver t xs c)
 | .agg cs=>.agg (cs.map (frC k ver t xs))
 |v=>v
def frV:AV→AV
 | .tup vs=>.tup (vs.map (fr1 k ver t xs))
 |v=>fr1 k ver t xs v
def frO:AO→AO
 | .vars T cs=>.vars T (cs.map (frC k ver t xs))
 | .rowc e sz v cs=>.rowc e sz v (cs.map (frC k ver t xs))
 |ob=>ob
def frE (env:Env):Env:=env.map λx=>(x.1,frV k ver t xs x.2)
end
theorem DP (k ver:Nat)(t:Ty)(xs:List t.den)(t':Nat):∀ env:Env,lkp (frE k ver t xs env) t'=frV k ver t xs (lkp env t')
 |[]=>rfl
 |(n,v)::env=>by
  simp only[frE,aJ,lkp]
  by_cases e:t'=n
  ·simp only[e,if_true]
  ·simp only[e,if_false];exact DP k ver t xs t' env
section
variable {C:Ctx} {L L':List AO} {σ σ':Sig} {w w':World} {k ver:Nat} {t:Ty} {xs:List t.den}
theorem Ji (h:∀ c u,RC C L σ w c u→RC C L' σ' w' (frC k ver t xs c) u){v:AV}{u:Value}(hv:RV1 C L σ w v u):RV1 C L' σ' w' (fr1 k ver t xs v) u:=by
 cases v with
 |undef=>trivial
 |void=>exact hv
 |one c=>exact h _ _ hv
 |agg cs=>obtain⟨vs,e,ha⟩:=hv;exact⟨vs,e,ha.mapL λc u hc=>h c u hc⟩
 |tup _=>exact hv.elim
theorem Ut (h:∀ c u,RC C L σ w c u→RC C L' σ' w' (frC k ver t xs c) u){v:AV}{u:Value}(hv:RV C L σ w v u):RV C L' σ' w' (frV k ver t xs v) u:=by
 cases v with
 |undef=>trivial
 |void=>exact hv
 |one c=>exact h _ _ hv
 |agg cs=>exact Ji h (v:=.agg cs) hv
 |tup vs=>obtain⟨us,e,ha⟩:=hv;exact⟨us,e,ha.mapL λc u hc=>Ji h hc⟩
end
theorem SU {C:Ctx}{L:List AO}{σ:Sig}{w:World}{k ver:Nat}{t:Ty}{e:TypeId}{xs:List t.den}(hi:INV C L σ w)(hk:L[k]? =some (.row t e ver xs)):
 (INV C (L.set k (.dead ver)) σ w∧eB C L σ w (L.set k (.dead ver)) σ w)∧∀ c u,RC C L σ w c u→RC C (L.set k (.dead ver)) σ w (frC k ver t xs c) u:=by
 have hlt:k<L.length:=(Δ.1 hk).1;have hI:=d8 (C:=C) (L':=L.set k (.dead ver)) (σ':=σ) (w':=w) k hi (Υ _) rfl rfl rfl (λ_ _ _=>rfl) (λj hj=>by rw[List.getElem?_set_ne (Ne.symm hj)]) (λ_ _=>rfl)
  (λob e=>by rw[hk] at e;cases e;exact⟨.dead ver,by simp[hlt],Υ _,λh=>by cases h⟩)
  (λb ⟨ob,e1,e2,_⟩=>by simp[hlt] at e1;subst e1;cases e2)
  (λ_ _ ob e=>by simp[hlt] at e;subst e;trivial)
 have key:∀ u,RC C L σ w (.row k ver) u→RC C (L.set k (.dead ver)) σ w (.list t xs) u:=by
  intro u h1;obtain⟨h3,ob,h4,h5,h6⟩:=h1;rw[hk] at h4;cases h4;obtain⟨_,h7⟩:=h6 rfl rfl;refine⟨h3,?_⟩;obtain⟨flat,h8,h9,h10⟩:=hi.ob k _ hk;show Dat _ w (.list t) xs [_];rw[h7];have hown:∀ b,avd C (L.set k (.dead ver)) σ b→avd C L σ b:=by
   rintro b (hx|⟨j,ob,e1,e2,e3⟩)
   ·exact .inl hx
   ·by_cases ej:j=k
    ·subst ej;simp[hlt] at e1;subst e1;cases e2
    ·rw[List.getElem?_set_ne (Ne.symm ej)] at e1
     exact .inr ⟨j,ob,e1,e2,e3⟩
  rcases h8.2 with⟨e1,e2⟩|⟨g,cap,cur,e1,_,e3,e4,e5,e6,e7⟩
  ·rw[e1]
   have:xs=[]:=List.eq_nil_of_length_eq_zero e2;subst this;exact fA t
  ·rw[e1]
   refine⟨some ⟨g,0,none⟩,cap,rfl,e4,⟨e5,λh=>by cases h⟩,λ_=>⟨g,0,rfl,?_,(Array.getElem?_eq_some_iff.1 e3).1,λi hi=>⟨_,(h10 i hi).length,λj hj=>?_,(h10 i hi).keep (Υ _) (λ_ _ _=>rfl) (λb _ hb=>hown b hb)⟩⟩⟩
   ·have hg:own L σ k g:=⟨_,hk,rfl,by rw[e1];rfl⟩
    rintro(hx|⟨j,ob,q1,q2,q3⟩)
    ·exact(hi.off k g hg).2 hx
    ·by_cases ej:j=k
     ·subst ej;simp[hlt] at q1;subst q1;cases q2
     ·rw[List.getElem?_set_ne (Ne.symm ej)] at q1
      exact ej (hi.inj j k g ⟨ob,q1,q2,q3⟩ hg)
   ·have hm:(i+1)*t.size≤xs.length*t.size:=Nat.mul_le_mul_right _ hi
    rw[Nat.add_mul,Nat.one_mul] at hm;rw[ee e3,List.getElem?_take_of_lt hj,List.getElem?_drop,← e7,List.getElem?_take_of_lt ω];simp
 refine⟨hI,λc u hc=>?_⟩
 cases c with
 |row k' v=>
  simp only[frC];split
  ·rename_i hh;obtain⟨rfl,rfl⟩:=hh;exact key u hc
  ·exact hI.2 _ _ hc
 |_=>exact hI.2 _ _ hc
theorem LS {C:Ctx}{L:List AO}{σ:Sig}{w:World}{k ver:Nat}{t:Ty}{e:TypeId}{xs:List t.den}(hi:INV C L σ w)(hk:L[k]? =some (.row t e ver xs)):∀ m,m≤L.length→
 INV C (((L.set k (.dead ver)).take m).map (frO k ver t xs)++(L.set k (.dead ver)).drop m) σ w∧eB C L σ w (((L.set k (.dead ver)).take m).map (frO k ver t xs)++(L.set k (.dead ver)).drop m) σ w∧
 ∀ c u,RC C L σ w c u→RC C (((L.set k (.dead ver)).take m).map (frO k ver t xs)++(L.set k (.dead ver)).drop m) σ w (frC k ver t xs c) u:=by
 have hlt:k<L.length:=(Δ.1 hk).1;intro m
 induction m with
 |zero=>
  intro _;obtain⟨⟨h1,h2⟩,h3⟩:=SU hi hk
  simpa using⟨h1,h2,h3⟩
 |succ m ih=>
  intro hm;obtain⟨h1,h2,h3⟩:=ih ω
  generalize hM:((L.set k (.dead ver)).take m).map (frO k ver t xs)++(L.set k (.dead ver)).drop m=M at h1 h2 h3
  have hlt2:m<(L.set k (.dead ver)).length:=by rw[List.length_set];omega
  have hobM:M[m]? =some ((L.set k (.dead ver))[m]):=by
   rw[← hM,List.getElem?_append_right (by simp;omega)];simp[List.getElem?_drop];rw[Nat.min_eq_left ω];simp[List.getElem?_eq_getElem hlt2]
  have hset:((L.set k (.dead ver)).take (m+1)).map (frO k ver t xs)++(L.set k (.dead ver)).drop (m+1)=M.set m (frO k ver t xs ((L.set k (.dead ver))[m])):=by
   rw[← hM,List.set_append_right _ _ (by simp;omega)];have e0:m-(List.map (frO k ver t xs) (List.take m (L.set k (.dead ver)))).length=0:=by simp;omega
   rw[e0,List.drop_eq_getElem_cons hlt2,bu,List.take_succ_eq_append_getElem hlt2,List.map_append];simp
  rw[hset]
  by_cases hmk:m=k
  ·subst hmk
   have e1:(L.set m (.dead ver))[m]=AO.dead ver:=η;rw[e1] at hobM⊢;show INV C (M.set m (.dead ver)) σ w∧_;have:M.set m (frO m ver t xs (.dead ver))=M:=jc hobM;rw[show M.set m (.dead ver)=M from jc hobM,this];exact⟨h1,h2,h3⟩
  ·have e1:(L.set k (.dead ver))[m]=L[m]'ω:=List.getElem_set_ne (Ne.symm hmk) _
   rw[e1] at hobM⊢;have hLm:L[m]? =some (L[m]'ω):=List.getElem?_eq_getElem _
   generalize L[m]'ω=ob at hobM hLm
   have hob:=hi.ob m ob hLm
   cases ob with
   |vars T cs=>
    obtain⟨b,vs,q1,q2,q3⟩:=hob;obtain⟨r1,r2⟩:=wQ h1 hobM q1 q2 (q3.mapL (f:=frC k ver t xs) λc u hc=>h3 c u hc);exact⟨r1,h2.trans r2,λc u hc=>r2 _ _ (h3 c u hc)⟩
   |rowc e' sz v cs=>
    obtain⟨flat,n,q1,q2,q3,q4⟩:=hob;obtain⟨r1,r2⟩:=CV h1 hobM q1 q2 (by simpa using q3) (q4.mapL (f:=frC k ver t xs) λc u hc=>h3 c u hc);exact⟨r1,h2.trans r2,λc u hc=>r2 _ _ (h3 c u hc)⟩
   |_=>
    simp only[frO];rw[jc hobM];exact⟨h1,h2,h3⟩
theorem PG {C:Ctx}{s:St}{k ver:Nat}{t:Ty}{e:TypeId}{xs:List t.den}(hk:s.L[k]? =some (.row t e ver xs)):
 kV C s {env:=frE k ver t xs s.env,L:=(s.L.set k (.dead ver)).map (frO k ver t xs)}:=λσ a w hr=>by
 obtain⟨h1,h2,h3⟩:=LS hr.inv hk s.L.length (Υ _);have e1:((s.L.set k (.dead ver)).take s.L.length).map (frO k ver t xs)++(s.L.set k (.dead ver)).drop s.L.length=(s.L.set k (.dead ver)).map (frO k ver t xs):=by
  rw[List.take_of_length_le η,List.drop_eq_nil_of_le η];simp
 rw[e1] at h1 h2 h3;refine⟨σ,h1,λt'=>?_,hr.size,hr.defers,hr.pres.trans h2⟩;show RV C _ σ w (lkp (frE k ver t xs s.env) t') _;rw[DP];exact Ut h3 (hr.env t')
def fzX (k:Nat)(s:St):Option St:=
 match s.L[k]? with
 |some (.row t _ ver xs)=>some {env:=frE k ver t xs s.env,L:=(s.L.set k (.dead ver)).map (frO k ver t xs)}
 |_=>none
theorem Ju {C:Ctx}{k:Nat}{s s':St}(h:fzX k s=some s'):kV C s s':=by
 unfold fzX at h;split at h
 ·rename_i t e ver xs hk
  simp only[Λ] at h;subst h;exact PG hk
 ·cases h
theorem Cq {C:Ctx}{L:List AO}{σ:Sig}{w:World}{m:Nat}(hi:INV C L σ w)(hm:m≤L.length)(hf:(L.take m).all (cr m)=true):
 INV C (L.take m) σ w∧(∀ c u,bY m c=true→RC C L σ w c u→RC C (L.take m) σ w c u)∧(∀ v u,fQ m v=true→RV C L σ w v u→RV C (L.take m) σ w v u):=by
 have hlt:∀ k,k<m→(L.take m)[k]? =L[k]?:=λk hk=>List.getElem?_take_of_lt hk;have hown:∀ o b,own (L.take m) σ o b→own L σ o b:=by
  rintro o b ⟨ob,e1,e2,e3⟩;have ho:=(Δ.1 e1).1;simp only[List.length_take] at ho;exact⟨ob,by rw[← hlt o ω];exact e1,e2,e3⟩
 have hav:∀ b,avd C (L.take m) σ b→avd C L σ b:=by
  rintro b (hx|⟨o,hb⟩)
  ·exact .inl hx
  ·exact .inr ⟨o,hown o b hb⟩
 have hcut:∀ c u,bY m c=true→RC C L σ w c u→RC C (L.take m) σ w c u:=λc u h1 h2=>qo (n:=m) (λb _ hb=>hav b hb) hlt (λ_ _=>rfl) h1 h2;refine⟨⟨λo ob e=>?_,λo o' b q1 q2=>hi.inj o o' b (hown o b q1) (hown o' b q2),λo b q=>hi.off o b (hown o b q),hi.kept,hi.xlt,hi.size,hi.os,hi.tape,hi.output⟩,hcut,λv u h1 h2=>AR (n:=m) (λb _ hb=>hav b hb) hlt (λ_ _=>rfl) h1 h2⟩;have ho:=(Δ.1 e).1;simp only[List.length_take] at ho;have h1:=hi.ob o ob (by rw[← hlt o ω];exact e);have hfo:=List.all_eq_true.1 hf ob (List.mem_of_getElem? e)
 cases ob with
 |dead _=>trivial
 |vars T cs=>obtain⟨b,vs,e1,e2,e3⟩:=h1;exact⟨b,vs,e1,e2,e3.weaken λc u hc hcu=>hcut c u (List.all_eq_true.1 hfo c hc) hcu⟩
 |row t e v xs=>obtain⟨flat,h2,h0,h3⟩:=h1;exact⟨flat,h2,h0,λi hi=>(h3 i hi).keep (Υ _) (λ_ _ _=>rfl) λb _ hb=>hav b hb⟩
 |mp T vk es=>exact h1
 |itr s pos=>exact h1
 |fact g x=>exact⟨h1.1,λhx=>h1.2 (hav g hx)⟩
 |rowc e sz v cs=>obtain⟨flat,n,h2,h0,hl0,h3⟩:=h1;exact⟨flat,n,h2,h0,hl0,h3.weaken λc u hc hcu=>hcut c u (List.all_eq_true.1 hfo c hc) hcu⟩
def yD:Nat→List AO→List (Nat×AO)
 |_,[]=>[]
 |i,x::r=>(i,x)::yD (i+1) r
theorem rh:∀ (xs pre ys:List AO),ys.length=xs.length→cD (pre++ys) (yD pre.length xs)=pre++xs
 |[],pre,ys,h=>by
  have:ys=[]:=List.eq_nil_of_length_eq_zero (by simpa using h);subst this;rfl
 |x::xs,pre,[],h=>by simp at h
 |x::xs,pre,y::ys,h=>by
  simp only[yD,cD];have e:(pre++y::ys).set pre.length x=(pre++[x])++ys:=η;rw[e];have:=rh xs (pre++[x]) ys (by simpa using h);simp only[aq,List.length_singleton] at this;rw[this];simp
theorem El:∀ (xs:List AO) (i:Nat) (p:Nat×AO),p∈yD i xs→p.1<i+xs.length
 |[],_,_,h=>by cases h
 |x::xs,i,p,h=>by
  simp only[yD,List.mem_cons] at h;rcases h with rfl|h
  ·simp
  ·have:=El xs (i+1) p h
   simp only[ax];omega
def iT (b:Nat)(L:List AO)(v:AV):Out:={av:=v,upd:=yD 0 (L.take b),new:=L.drop b,fp:=List.range b}
theorem m9 {L0 L:List AO}{v:AV}(h:L0.length≤L.length):app L0 (iT L0.length L v)=L:=by
 unfold app iT;have:=rh (L.take L0.length) [] L0 (by simp;omega);simp only[aC,aF] at this;rw[this];simp
theorem nU {L L0:List AO}{fp:List Nat}(hfp:∀ k,k<L0.length→k∈fp)(h:∀ k,k∈fp→L[k]? =L0[k]?)(hl:L.length=L0.length):L=L0:=List.ext_getElem? λk=>by
 by_cases hk:k<L0.length
 ·exact h k (hfp k hk)
 ·rw[List.getElem?_eq_none ω,List.getElem?_eq_none ω]
theorem Lv {P:Program}{L0:List AO}{f:FuncId}{args:List AV}{out out':Out}(h:cS P L0 f args out)(hfp:∀ k,k<L0.length→k∈out'.fp)(hav:out'.av=out.av)(happ:app L0 out'=app L0 out):cS P L0 f args out':=by
 refine⟨h.1,λC L σ w vs hP hI ha hfp2 hlen=>?_⟩;have e:=nU hfp hfp2 hlen;subst e;refine(h.2 C L σ w vs hP hI ha (λ_ _=>rfl) rfl).mono λen w' hh=>?_;obtain⟨v,e1,σ',g1,g2,g3⟩:=hh;exact⟨v,e1,σ',by rw[happ];exact g1,by rw[happ,hav];exact g2,by rw[happ];exact g3⟩
theorem yR {P:Program}{L0 L:List AO}{f:FuncId}{args:List AV}{v:AV}{m:Nat}(h:cS P L0 f args (iT L0.length L v))(hn:L0.length≤m)(hm:m≤L.length)(hv:fQ m v=true)(hf:(L.take m).all (cr m)=true):
 cS P L0 f args (iT L0.length (L.take m) v):=by
 refine⟨h.1,λC L1 σ w vs hP hI ha hfp2 hlen=>?_⟩;have e:=nU (λk hk=>by simpa [iT] using hk) hfp2 hlen;subst e;refine(h.2 C L1 σ w vs hP hI ha (λ_ _=>rfl) rfl).mono λen w' hh=>?_;obtain⟨u,e1,σ',g1,g2,g3⟩:=hh;rw[m9 ω] at g1 g2 g3;obtain⟨k1,k2,k3⟩:=Cq g1 hm hf;have e2:app L1 (iT L1.length (L.take m) v)=L.take m:=m9 (by simp;omega);exact⟨u,e1,σ',by rw[e2];exact k1,by rw[e2];exact k3 _ _ hv g2,by
  rw[e2];exact λc x hc=>k2 c x (tO hn (lH hc)) (g3 c x hc)⟩
def yT (b:Nat)(v:AV):Nat→List AO→List AO
 |0,L=>L
 |k+1,L=>match L.length with
  |0=>L
  |m+1=>if b≤m∧fQ m v=true∧(L.take m).all (cr m)=true then yT b v k (L.take m) else L
theorem Eo (b:Nat)(v:AV):∀ (k:Nat) (L:List AO),b≤L.length→b≤(yT b v k L).length
 |0,L,h=>h
 |k+1,L,h=>by
  unfold yT;split
  ·exact h
  ·rename_i m hm
   split
   ·rename_i hh
    exact Eo b v k _ (by simp;omega)
   ·exact h
theorem Cs {P:Program}{L0:List AO}{f:FuncId}{args:List AV}{v:AV}:∀ (k:Nat) (L:List AO),cS P L0 f args (iT L0.length L v)→cS P L0 f args (iT L0.length (yT L0.length v k L) v)
 |0,L,h=>h
 |k+1,L,h=>by
  unfold yT;split
  ·exact h
  ·rename_i m hm
   split
   ·rename_i hh
    exact Cs k _ (yR h hh.1 ω hh.2.1 hh.2.2)
   ·exact h
def y8 (b:Nat)(v:AV)(L:List AO):List AO:=if b≤L.length∧fQ b v=true∧(L.take b).all (cr b)=true then L.take b else yT b v L.length L
theorem KS (b:Nat)(v:AV)(L:List AO)(h:b≤L.length):b≤(y8 b v L).length:=by
 unfold y8;split
 ·simp;omega
 ·exact Eo _ _ _ _ h
theorem Ko {P:Program}{L0:List AO}{f:FuncId}{args:List AV}{v:AV}{L:List AO}(h:cS P L0 f args (iT L0.length L v)):cS P L0 f args (iT L0.length (y8 L0.length v L) v):=by
 unfold y8;split
 ·rename_i hh
  exact yR h (Υ _) hh.1 hh.2.1 hh.2.2
 ·exact Cs _ _ h
def tS {α:Type}(e:α→α→Bool):List α→List α→Bool
 |[],[]=>true
 |x::r,y::q=>e x y&&tS e r q
 |_,_=>false
theorem lM {α:Type}{e:α→α→Bool}(h:∀ x y,e x y=true→x=y):∀ {l m:List α},tS e l m=true→l=m
 |[],[],_=>rfl
 |x::r,y::q,hh=>by
  simp only[tS,Bool.and_eq_true] at hh;rw[h x y hh.1,lM h hh.2]
 |[],_::_,hh=>by cases hh
 |_::_,[],hh=>by cases hh
def eqD:(t:Ty)→t.den→t.den→Bool
 | .int _,x,y=>decide ((show Int from x)=(show Int from y))
 | .bool,x,y=>(show Bool from x) == (show Bool from y)
 | .str,x,y=>decide ((show List UInt8 from x)=(show List UInt8 from y))
 | .list t,x,y=>tS (eqD t) (show List t.den from x) (show List t.den from y)
 | .unit,_,_=>true
 | .pair a b,x,y=>eqD a x.1 y.1&&eqD b x.2 y.2
theorem qU:∀ (t:Ty) (x y:t.den),eqD t x y=true→x=y
 | .int _,x,y,h=>by simpa [eqD] using h
 | .bool,x,y,h=>by simpa [eqD] using h
 | .str,x,y,h=>by simpa [eqD] using h
 | .list t,x,y,h=>lM (qU t) h
 | .unit,_,_,_=>rfl
 | .pair a b,(x1,x2),(y1,y2),h=>by
   simp only[eqD,Bool.and_eq_true] at h;rw[qU a _ _ h.1,qU b _ _ h.2]
def eqK:Cap→Cap→Bool
 | .ref a,.ref b=>a == b
 |_,_=>false
def eqC:AC→AC→Bool
 | .int k n,.int k' m=>decide (k=k')&&decide (n=m)
 | .bool a,.bool b=>a == b
 | .list t xs,.list t' ys=>if h:t'=t then eqD (.list t) xs (h▸ys:List t.den) else false
 | .nils,.nils=>true
 | .nilp,.nilp=>true
 | .emp,.emp=>true
 | .row k v,.row k' v'=>k == k'&&v == v'
 | .rwc k v,.rwc k' v'=>k == k'&&v == v'
 | .ptr k v i o,.ptr k' v' i' o'=>k == k'&&v == v'&&i == i'&&o == o'
 | .fn f caps,.fn g caps'=>f == g&&tS eqK caps caps'
 |_,_=>false
theorem Rm (a b:Cap)(h:eqK a b=true):a=b:=by
 cases a<;>cases b<;>simp_all [eqK]
theorem BM (a b:AC)(h:eqC a b=true):a=b:=by
 unfold eqC at h;split at h
 ·simp only[Bool.and_eq_true,decide_eq_true_eq] at h;rw[h.1,h.2]
 ·simp only[beq_iff_eq] at h;rw[h]
 ·split at h
  ·rename_i e;subst e
   have:=qU (.list _) _ _ h;rw[this]
  ·cases h
 ·rfl
 ·rfl
 ·rfl
 ·simp only[Bool.and_eq_true,beq_iff_eq] at h;rw[h.1,h.2]
 ·simp only[Bool.and_eq_true,beq_iff_eq] at h;rw[h.1,h.2]
 ·simp only[Bool.and_eq_true,beq_iff_eq] at h;rw[h.1.1.1,h.1.1.2,h.1.2,h.2]
 ·simp only[Bool.and_eq_true,beq_iff_eq] at h;rw[h.1,lM Rm h.2]
 ·cases h
def eqO:AO→AO→Bool
 | .dead v,.dead v'=>v == v'
 | .vars T cs,.vars T' cs'=>T == T'&&tS eqC cs cs'
 | .row t e v xs,.row t' e' v' ys=>e == e'&&v == v'&&(if h:t'=t then eqD (.list t) xs (h▸ys:List t.den) else false)
 | .rowc e sz v cs,.rowc e' sz' v' cs'=>e == e'&&sz == sz'&&v == v'&&tS eqC cs cs'
 |_,_=>false
theorem Su (a b:AO)(h:eqO a b=true):a=b:=by
 unfold eqO at h;split at h
 ·simp only[beq_iff_eq] at h;rw[h]
 ·simp only[Bool.and_eq_true,beq_iff_eq] at h;rw[h.1,lM BM h.2]
 ·simp only[Bool.and_eq_true,beq_iff_eq] at h
  obtain⟨⟨rfl,rfl⟩,h⟩:=h;split at h
  ·rename_i e;subst e
   have:=qU (.list _) _ _ h;rw[this]
  ·cases h
 ·simp only[Bool.and_eq_true,beq_iff_eq] at h;rw[h.1.1.1,h.1.1.2,h.1.2,lM BM h.2]
 ·cases h
def Ez (q:Bool)(L0 L:List AO)(v:AV):Out:=
 if q=true∧tS eqO (L.take L0.length) L0=true then {av:=v,upd:=[],new:=L.drop L0.length,fp:=List.range L0.length} else iT L0.length L v
theorem MJ {P:Program}{L0 L:List AO}{f:FuncId}{args:List AV}{v:AV}{q:Bool}(hl:L0.length≤L.length)(h:cS P L0 f args (iT L0.length L v)):cS P L0 f args (Ez q L0 L v):=by
 unfold Ez;split
 ·rename_i hq
  have e:=lM Su hq.2;refine Lv h (λk hk=>by simpa using hk) rfl ?_;rw[m9 hl];simp only[app,cD]
  conv=>lhs;lhs;rw[← e]
  exact List.take_append_drop _ _
 ·exact h
structure FN where
 code:Code
 n:Nat
 res:List ResultVar
inductive PA where
 |slot (t':Nat) (t:Ty) (e:TypeId)
 |cell (t' j:Nat) (t:Ty) (e:TypeId)
 |hole
def y7:List PA→Nat
 |[]=>0
 | .hole::r=>y7 r+1
 |_::r=>y7 r
def nn:List PA→St→St
 |[],s=>s
 | .hole::r,s=>nn r {env:=s.env,L:=s.L++[.dead 0]}
 | .slot t' t e::r,s=>match lkp s.env t' with
   | .one .nils=>if 0<t.size then nn r {env:=(t',.one (.row s.L.length 0))::s.env,L:=s.L++[.row t e 0 []]} else s
   |_=>nn r s
 | .cell t' j t e::r,s=>match lkp s.env t' with
   | .one (.ptr k _ _ _)=>match s.L[k]? with
     |some (.vars T cs)=>match cs[j]? with
      |some .nils=>if 0<t.size then nn r {env:=s.env,L:=s.L.set k (.vars T (cs.set j (.row s.L.length 0)))++[.row t e 0 []]} else s
      |_=>nn r s
     |_=>nn r s
   |_=>nn r s
theorem js {C:Ctx}{c:Code}{Q:Exit→St→Prop}:∀ (l:List PA) (s:St),AWP C c Q (nn l s)→AWP C c Q s
 |[],s,h=>h
 | .hole::r,s,h=>du (js r _ h)
 | .slot t' t e::r,s,h=>by
   unfold nn at h;split at h
   ·rename_i hk
    split at h
    ·rename_i h0
     exact eC t' t e h0 hk (js r _ h)
    ·exact h
   ·exact js r _ h
 | .cell t' j t e::r,s,h=>by
   unfold nn at h;split at h
   ·split at h
    ·rename_i hm
     split at h
     ·rename_i hj
      split at h
      ·rename_i h0
       exact eu _ j t e h0 hm hj (js r _ h)
      ·exact h
     ·exact js r _ h
    ·exact js r _ h
   ·exact js r _ h
structure XE where
 T:TB
 fn:FuncId→Option FN
 con:FuncId→List AV→Option AV
 conO:FuncId→List AV→Option ((t:Ty)×TypeId×List t.den)
 own:FuncId→Nat→Bool
 keep:FuncId→Option (List Nat)
 nofz:FuncId→Bool
 pre:FuncId→Nat→List PA
 quiet:FuncId→Bool
def i7 (N:Nat):Code→Bool
 | .region _ ops _=>dB N ops.toList
 | .seq a b=>i7 N a&&i7 N b
 | .cond _ a b=>i7 N a&&i7 N b
 | .block _ a=>i7 N a
 | .loop a=>i7 N a
 |_=>true
structure XEok (P:Program)(E:XE):Prop where
 T:TBok P E.T
 fn:∀ f x,E.fn f=some x→∃ fn,P.funcs[f]? =some fn∧fn.body=some x.code∧(fn.name == "runtime.NumGoroutine")=false∧fn.ntmps=x.n∧fn.results.toList=x.res∧i7 x.n x.code=true
 con:∀ f args r,E.con f args=some r→aY P f args r
 conO:∀ f args t e xs,E.conO f args=some ⟨t,e,xs⟩→gQ P f args t e xs
 mixed:P.follows .mixedOrders=true
inductive RX where
 |done (s:St) (tr:Tr)
 |need (k:Nat)
 |fail
def TA:AC→Option Nat
 | .row k _=>some k
 |_=>none
def Vs:AV→Option Nat
 | .one c=>TA c
 | .agg cs=>cs.findSome? TA
 |_=>none
def Pp (s:St)(o:Oper):Option Nat:=o.op.operands.toList.reverse.findSome? λx=>Vs (ev s.env x)
def yK (T:TB)(own:Nat→Bool)(call:Bool→List AO→FuncId→List AV→Option Out)(ops:List Oper):List Oper→St→Tr→RX
 |[],s,tr=>.done s tr
 |o::rest,s,tr=>match gval ops s.env o with
  |some true=>match sOp T (own (o.dst.getD 0)) call s o with
   |some out=>yK T own call ops rest (put s o out) (tr++[cQ out])
   |none=>match Pp s o with
    |some k=>.need k
    |none=>.fail
  |some false=>yK T own call ops rest (put s o {av:=.void}) (tr++[([],[],0)])
  |none=>.fail
theorem wq {P:Program}{T:TB}{own:Nat→Bool}{call:Bool→List AO→FuncId→List AV→Option Out}{ops:List Oper}(hT:TBok P T)(hcall:∀ ow L f args out,call ow L f args=some out→cS P L f args out){K:St→Tr→Prop}:
 ∀ (l:List Oper) (s:St) (tr:Tr) (s':St) (tr':Tr),yK T own call ops l s tr= .done s' tr'→K s' tr'→RG P ops l s tr K
 |[],s,tr,s',tr',h,hK=>by
  simp only[yK,RX.done.injEq] at h;obtain⟨rfl,rfl⟩:=h;exact ah hK
 |o::rest,s,tr,s',tr',h,hK=>by
  unfold yK at h;split at h
  ·rename_i hg
   split at h
   ·rename_i out ho
    exact d4 (λC hC=>.inl ⟨hg,RA hT (λf args out=>hcall _ _ f args out) ho C hC⟩) (wq hT hcall rest _ _ s' tr' h hK)
   ·split at h<;>cases h
  ·rename_i hg
   exact Q8 hg (wq hT hcall rest _ _ s' tr' h hK)
  ·cases h
def uW (T:TB)(own:Nat→Bool)(call:Bool→List AO→FuncId→List AV→Option Out)(ops:List Oper)(draw:Bool):Nat→St→Option St
 |0,_=>none
 |n+1,s=>match yK T own call ops ops s [] with
  | .done s' tr=>if draw then(if mK ops tr=true then some s' else none) else some s'
  | .need k=>match fzX k s with
    |some s1=>uW T own call ops draw n s1
    |none=>none
  | .fail=>none
theorem xI {C:Ctx}{T:TB}{own:Nat→Bool}{call:Bool→List AO→FuncId→List AV→Option Out}{ops:Array Oper}{draw:Bool}{id:Nat}(hT:TBok C.P T)(hcall:∀ ow L f args out,call ow L f args=some out→cS C.P L f args out)(hm:C.P.follows .mixedOrders=true)(hd:dB C.N ops.toList=true){Q:Exit→St→Prop}:
 ∀ (n:Nat) (s s':St),uW T own call ops.toList draw n s=some s'→Q .normal s'→AWP C (.region id ops draw) Q s
 |0,_,_,h,_=>by cases h
 |n+1,s,s',h,hQ=>by
  unfold uW at h;split at h
  ·rename_i s1 tr hr
   have hg:=λK hK=>wq (K:=K) hT hcall _ _ _ _ _ hr hK;rw[← Array.toArray_toList (xs:=ops)]
   cases draw with
   |false=>
    simp only[Bool.false_eq_true,if_false,Λ] at h;subst h;exact ui hd (hg _ hQ)
   |true=>
    simp only[if_true] at h;split at h
    ·rename_i ho
     simp only[Λ] at h;subst h;exact zl hm hd (hg _ ⟨ho,hQ⟩)
    ·cases h
  ·split at h
   ·rename_i s1 hf
    exact A7 (Ju hf) (xI hT hcall hm hd n s1 s' h hQ)
   ·cases h
  ·cases h
def d5 (ks:Option (List Nat))(s:St):St:=
 match ks with
 |some l=>{env:=dh s.env l,L:=s.L}
 |none=>s
theorem GJ (ks:Option (List Nat))(s:St):SUB (d5 ks s) s:=by
 cases ks with
 |none=>exact .refl _
 |some l=>exact ar l
def QN (b:Nat)(L:List AO)(env:Env):Option Nat:=
 env.findSome? λx=>match x.2 with
  | .one (.row k _)=>if b≤k then some k else none
  | .one (.ptr k _ _ _)=>if b≤k then(match L[k]? with
    |some (.vars _ cs)=>cs.findSome? λc=>match c with| .row k _=>if b≤k then some k else none|_=>none
    |_=>none) else none
  | .agg cs=>cs.findSome? λc=>match c with| .row k _=>if b≤k then some k else none|_=>none
  |_=>none
def B4 (b:Nat):Nat→St→St
 |0,s=>s
 |n+1,s=>match QN b s.L s.env with
  |some k=>match fzX k s with
   |some s1=>B4 b n s1
   |none=>s
  |none=>s
theorem yO {C:Ctx}{b:Nat}:∀ (n:Nat) (s:St),kV C s (B4 b n s)
 |0,s=>kV.refl _ _
 |n+1,s=>by
  unfold B4;split
  ·split
   ·rename_i hf
    exact kV.trans (Ju hf) (yO n _)
   ·exact kV.refl _ _
  ·exact kV.refl _ _
def lV:List ResultVar→List Nat
 |[]=>[]
 | .tmp t::r=>t::lV r
 | .cell a _::r=>a::lV r
def Px (b:Nat)(nofz:Bool)(res:List ResultVar)(s:St):St:=
 (if nofz then {env:=dh s.env (lV res),L:=s.L} else B4 b 20 {env:=dh s.env (lV res),L:=s.L})
theorem Pb {C:Ctx}{b:Nat}{nofz:Bool}{res:List ResultVar}{c:Code}{Q:Exit→St→Prop}{s:St}(hB:C.bL.length≤b)(h:AWP C c Q (Px b nofz res s)):AWP C c Q s:=by
 unfold Px at h;have h1:=h;refine fJ (lV res) ?_
 cases nofz with
 |true=>exact h1
 |false=>exact A7 (yO _ _) h1
def rN (T:TB)(s:St):List ResultVar→Option (List AV)
 |[]=>some []
 | .tmp t::r=>match lkp s.env t,rN T s r with
   | .tup _,_=>none
   |v,some vs=>some (v::vs)
   |_,none=>none
 | .cell a t::r=>match T.td t,lkp s.env a,rN T s r with
   |some td,.one (.ptr k 0 0 0),some vs=>match cK s.L k 0 0 with
    |some cs=>match bZ td cs 0 with
     |some v=>some (v::vs)
     |none=>none
    |none=>none
   |_,_,_=>none
def JS (T:TB)(s:St)(rs:List ResultVar):Option AV:=
 match rN T s rs with
 |some [v]=>some v
 |some vs=>some (.tup vs)
 |none=>none
def Mz:Exit→Bool
 | .normal=>true
 | .ret=>true
 |_=>false
theorem Eg {e:Exit}(h:Mz e=true):e= .normal∨e= .ret:=by
 cases e<;>first|exact .inl rfl|exact .inr rfl|cases h
def Ns (E:XE)(gD:FuncId→FN→Nat→Code→St→Option (Exit×St))(f:FuncId)(F:FN)(A:List AO)(args:List AV):Option Out:=
 match gD f F A.length F.code {env:=cm 0 args,L:=A} with
 |some (e,s1)=>if Mz e=true then match JS E.T s1 F.res with
  |some v=>if A.length≤s1.L.length then some (Ez (E.quiet f) A (y8 A.length v s1.L) v) else none
  |none=>none
  else none
 |none=>none
def FA (E:XE)(gD:FuncId→FN→Nat→Code→St→Option (Exit×St))(h:Nat)(ow:Bool)(L:List AO)(f:FuncId)(args:List AV):Option Out:=
 match(if ow then E.conO f args else none) with
 |some ⟨t,e,xs⟩=>some {av:=.one (.row L.length 0),new:=[.row t e 0 xs]}
 |none=>match E.con f args with
 |some r=>some {av:=r}
 |none=>match E.fn f with
  |none=>none
  |some F=>if args.length≤F.n then match Ns E gD f F (L.take (L.length-h)) args with
   |some out=>if h=0 then some out else if(L.take (L.length-h)).all (cr (L.take (L.length-h)).length)=true∧args.all (fQ (L.take (L.length-h)).length)=true∧out.new.isEmpty=true then some out else none
   |none=>none
   else none
theorem uY {P:Program}{T:TB}(hT:TBok P T){s:St}:∀ {rs:List ResultVar} {vs:List AV},rN T s rs=some vs→ky P s rs=some vs
 |[],vs,h=>h
 | .tmp t::r,vs,h=>by
   unfold rN at h;unfold ky;split at h
   ·cases h
   ·rename_i vs' h1 hn
    rw[uY hT h1];simp only[Λ] at h;subst h;split
    ·rename_i e;exact absurd e (hn _)
    ·rename_i e _;cases e;rfl
    ·rename_i e _;cases e
   ·cases h
 | .cell a t::r,vs,h=>by
   unfold rN at h;unfold ky;split at h
   ·rename_i td k vs' h1 h2 h3
    rw[hT.td _ _ h1,h2,uY hT h3];exact h
   ·cases h
theorem E2 {P:Program}{T:TB}(hT:TBok P T){s:St}{rs:List ResultVar}{v:AV}(h:JS T s rs=some v):w5 P s rs=some v:=by
 unfold JS at h;unfold w5;split at h
 ·rename_i h1;rw[uY hT h1];exact h
 ·rename_i vs hn h1
  rw[uY hT h1];split
  ·rename_i v' e;cases e;exact(hn _ rfl).elim
  ·rename_i e;cases e;exact h
  ·rename_i e;cases e
 ·cases h
def gD (E:XE):Nat→FuncId→FN→Nat→Code→St→Option (Exit×St)
 |0,_,_,_,_,_=>none
 |n+1,f,F,b,c,s=>match c with
  | .skip=>some (.normal,s)
  | .region id ops draw=>match uW E.T (E.own f) (FA E (gD E n) (y7 (E.pre f id))) ops.toList draw 4 (nn (E.pre f id) s) with
    |some s1=>some (.normal,d5 (E.keep f) s1)
    |none=>none
  | .seq x y=>match gD E n f F b x s with
    |some (.normal,s1)=>gD E n f F b y s1
    |r=>r
  | .cond c x y=>match ev s.env c with
    | .one (.bool true)=>gD E n f F b x s
    | .one (.bool false)=>gD E n f F b y s
    |_=>none
  | .block id x=>match gD E n f F b x s with
    |some (.exit id',s1)=>if id'=id then some (.normal,s1) else some (.exit id',s1)
    |r=>r
  | .loop x=>match gD E n f F b x s with
    |some (.normal,s1)=>gD E n f F b (.loop x) s1
    |r=>r
  | .exit id=>some (.exit id,s)
  | .ret=>some (.ret,Px b (E.nofz f) F.res s)
  |_=>none
theorem OW {P:Program}{E:XE}(hE:XEok P E):∀ (n:Nat) (f:FuncId) (F:FN) (b:Nat) (c:Code) (s:St) (e:Exit) (s':St),gD E n f F b c s=some (e,s')→
 ∀ C:Ctx,C.P=P→i7 C.N c=true→C.bL.length≤b→AWP C c (λe1 s1=>e1=e∧s1=s') s:=by
 intro n
 induction n using Nat.strongRecOn with
 |ind n ih=>
 intro f F b c s e s' h C hC hk hb
 cases n with
 |zero=>simp[gD] at h
 |succ n=>
 have hinl:∀ (g:FuncId) (G:FN) (A:List AO) (args:List AV) (out:Out),E.fn g=some G→args.length≤G.n→Ns E (gD E n) g G A args=some out→cS P A g args out∧(∀ p,p∈out.upd→p.1<A.length)∧∀ k,k<A.length→k∈out.fp:=by
  intro g G A args out hG hn hc;obtain⟨fn,q1,q2,q3,q4,q5,q6⟩:=hE.fn _ _ hG;unfold Ns at hc;split at hc
  ·rename_i e0 s1 hx
   split at hc
   ·rename_i hend
    split at hc
    ·rename_i v hv
     split at hc
     ·rename_i hl
      simp only[Λ] at hc;subst hc;refine⟨MJ (KS _ _ _ hl) (Ko ?_),λp hp=>?_,λk hk=>?_⟩
      ·refine fl A _ q1 q2 q3 (by rw[q4];exact hn) (λk hk=>by simpa [iT] using hk) λC' hP hN hB=>?_
       refine iB (ih n (Nat.lt_succ_self n) g G A.length G.code _ _ _ hx C' hP (by rw[hN,q4];exact q6) (by rw[hB];exact Υ _)) λe1 s2 he=>?_;obtain⟨rfl,rfl⟩:=he;exact⟨Eg hend,v,by rw[q5];exact E2 hE.T hv,(m9 hl).symm,rfl⟩
      ·unfold Ez at hp
       split at hp
       ·cases hp
       ·have:=El _ _ _ hp
        simp only[List.length_take] at this;omega
      ·unfold Ez
       split<;>simpa [iT] using hk
     ·cases hc
    ·cases hc
   ·cases hc
  ·cases hc
 have hcall:∀ (h:Nat) (ow:Bool) (L:List AO) (g:FuncId) (args:List AV) (out:Out),FA E (gD E n) h ow L g args=some out→cS P L g args out:=by
  intro h ow L g args out hc;unfold FA at hc;split at hc
  ·rename_i t e xs hr
   split at hr
   ·simp only[Λ] at hc
    subst hc;exact gy (hE.conO _ _ _ _ _ hr)
   ·cases hr
  split at hc
  ·rename_i r hr
   simp only[Λ] at hc;subst hc;exact ak (hE.con _ _ _ hr)
  ·split at hc
   ·cases hc
   ·rename_i G hG
    split at hc
    ·rename_i hn
     split at hc
     ·rename_i out' hx
      obtain⟨k1,k2,k3⟩:=hinl _ _ _ _ _ hG hn hx;split at hc
      ·rename_i h0
       simp only[Λ] at hc;subst hc;have e0:L.take (L.length-h)=L:=by rw[h0];simp
       rw[e0] at k1;exact k1
      ·split at hc
       ·rename_i hh
        simp only[Λ] at hc;subst hc;have:=CF (E:=L.drop (L.length-h)) k1 hh.1 hh.2.1 (by simpa using hh.2.2) k2 k3;rwa[List.take_append_drop] at this
       ·cases hc
     ·cases hc
    ·cases hc
 unfold gD at h;split at h
 ·simp only[Λ,Prod.mk.injEq] at h;obtain⟨rfl,rfl⟩:=h;exact au ⟨rfl,rfl⟩
 ·rename_i id ops draw
  split at h
  ·rename_i s1 hr
   simp only[Λ,Prod.mk.injEq] at h;obtain⟨rfl,rfl⟩:=h;subst hC;have h1:AWP C (.region id ops draw) (λe1 s2=>e1= .normal∧s2=s1) s:=js _ _ (xI hE.T (hcall _) hE.mixed hk 4 _ s1 hr ⟨rfl,rfl⟩);intro σ a w hrel;refine wp_mono (h1 σ a w hrel) λe1 a' w' hh=>?_;obtain⟨s2,σ2,⟨he1,he2⟩,hrel2⟩:=hh;subst he2;exact⟨_,σ2,⟨he1,rfl⟩,hrel2.sub (GJ _ _)⟩
  ·cases h
 ·rename_i x y
  simp only[i7,Bool.and_eq_true] at hk;split at h
  ·rename_i s1 hx
   refine xw (iB (ih n (Nat.lt_succ_self n) _ _ _ _ _ _ _ hx C hC hk.1 hb) λe1 s2 he=>?_);obtain⟨rfl,rfl⟩:=he;exact ih n (Nat.lt_succ_self n) _ _ _ _ _ _ _ h C hC hk.2 hb
  ·rename_i r hn
   refine xw (iB (ih n (Nat.lt_succ_self n) _ _ _ _ _ _ _ h C hC hk.1 hb) λe1 s2 he=>?_);obtain⟨rfl,rfl⟩:=he
   cases e1 with
   |normal=>exact absurd h (hn _)
   |_=>exact⟨rfl,rfl⟩
 ·rename_i cc x y
  simp only[i7,Bool.and_eq_true] at hk;split at h
  ·rename_i hc
   exact ox hc (λ_=>ih n (Nat.lt_succ_self n) _ _ _ _ _ _ _ h C hC hk.1 hb) (λe=>by cases e)
  ·rename_i hc
   exact ox hc (λe=>by cases e) (λ_=>ih n (Nat.lt_succ_self n) _ _ _ _ _ _ _ h C hC hk.2 hb)
  ·cases h
 ·rename_i id x
  split at h
  ·rename_i id' s1 hx
   refine ay (iB (ih n (Nat.lt_succ_self n) _ _ _ _ _ _ _ hx C hC hk hb) λe1 s2 he=>?_);obtain⟨rfl,rfl⟩:=he;simp only[BB];split at h
   ·rename_i hid
    rw[if_pos hid];simp only[Λ,Prod.mk.injEq] at h;obtain⟨rfl,rfl⟩:=h;exact⟨rfl,rfl⟩
   ·rename_i hid
    rw[if_neg hid];simp only[Λ,Prod.mk.injEq] at h;obtain⟨rfl,rfl⟩:=h;exact⟨rfl,rfl⟩
  ·rename_i r hn
   refine ay (iB (ih n (Nat.lt_succ_self n) _ _ _ _ _ _ _ h C hC hk hb) λe1 s2 he=>?_);obtain⟨rfl,rfl⟩:=he
   cases e1 with
   |exit id'=>exact absurd h (hn _ _)
   |_=>exact⟨rfl,rfl⟩
 ·rename_i x
  have hk':i7 C.N x=true:=hk;have h0:gD E (n+1) f F b (.loop x) s=some (e,s'):=by unfold gD;exact h
  refine aM (λm st=>m≤n+1∧gD E m f F b (.loop x) st=some (e,s')) ⟨n+1,s,.refl _,Υ _,h0⟩ λm st hI=>?_;obtain⟨hm,hx⟩:=hI
  cases m with
  |zero=>simp[gD] at hx
  |succ m=>
   unfold gD at hx;simp only at hx;split at hx
   ·rename_i s1 hy
    refine iB (ih m ω _ _ _ _ _ _ _ hy C hC hk' hb) λe1 s2 he=>?_;obtain⟨rfl,rfl⟩:=he;exact⟨m,s2,Nat.lt_succ_self m,.refl _,ω,hx⟩
   ·rename_i r hn
    refine iB (ih m ω _ _ _ _ _ _ _ hx C hC hk' hb) λe1 s2 he=>?_;obtain⟨rfl,rfl⟩:=he
    cases e1 with
    |normal=>exact absurd hx (hn _)
    |_=>exact⟨rfl,rfl⟩
 ·simp only[Λ,Prod.mk.injEq] at h;obtain⟨rfl,rfl⟩:=h;exact aL ⟨rfl,rfl⟩
 ·simp only[Λ,Prod.mk.injEq] at h;obtain⟨rfl,rfl⟩:=h
  exact Pb hb (aA ⟨rfl,rfl⟩)
 ·cases h
inductive BT (α:Type) where
 |leaf
 |node (l:BT α) (k:Nat) (v:α) (r:BT α)
def BT.get {α:Type}:BT α→Nat→Option α
 | .leaf,_=>none
 | .node l k v r,t=>bif Nat.blt t k then l.get t else bif Nat.beq t k then some v else r.get t
def BT.All {α:Type}(p:Nat→α→Prop):BT α→Prop
 | .leaf=>True
 | .node l k v r=>l.All p∧p k v∧r.All p
theorem BT.get_all {α:Type}{p:Nat→α→Prop}:∀ {b:BT α} {t:Nat} {v:α},b.All p→b.get t=some v→p t v
 | .leaf,_,_,_,h=>by cases h
 | .node l k v r,t,v',⟨h1,h2,h3⟩,h=>by
   unfold BT.get at h
   cases e1:Nat.blt t k with
   |true=>rw[e1] at h;exact BT.get_all h1 h
   |false=>
    rw[e1] at h
    cases e2:Nat.beq t k with
    |true=>
     rw[e2] at h;have e3:t=k:=Nat.eq_of_beq_eq_true e2;simp only[cond_false,cond_true,Λ] at h;rw[e3,← h];exact h2
    |false=>rw[e2] at h;exact BT.get_all h3 h
def leC (a b:AC):Bool:=
 match a,b with
 | .nils,.list _ []=>true
 |_,_=>eqC a b
theorem IW {a b:AC}(h:leC a b=true){C:Ctx}{L:List AO}{σ:Sig}{w:World}{u:Value}(hu:RC C L σ w a u):RC C L σ w b u:=by
 unfold leC at h;split at h
 ·rename_i t
  have e:u= .slice none 0 0:=hu.2;subst e;exact⟨rfl,fA t⟩
 ·rw[← BM _ _ h];exact hu
def leV:AV→AV→Bool
 | .one a,.one b=>leC a b
 | .agg as',.agg bs=>eqL2 as' bs
 |_,_=>false
 where
 eqL2:List AC→List AC→Bool
  |[],[]=>true
  |a::r,b::q=>leC a b&&eqL2 r q
  |_,_=>false
theorem IA {C:Ctx}{L:List AO}{σ:Sig}{w:World}:∀ {l m:List AC} {us:List Value},leV.eqL2 l m=true→bv (RC C L σ w) l us→bv (RC C L σ w) m us
 |[],[],_,_,h=>h
 |a::r,b::q,u::us,h,hu=>by
  simp only[leV.eqL2,Bool.and_eq_true] at h;exact⟨IW h.1 hu.1,IA h.2 hu.2⟩
 |_::_,_::_,[],_,hu=>hu.elim
 |[],_::_,_,h,_=>by cases h
 |_::_,[],_,h,_=>by cases h
theorem Sk {a b:AV}(h:leV a b=true){C:Ctx}{L:List AO}{σ:Sig}{w:World}{u:Value}(hu:RV C L σ w a u):RV C L σ w b u:=by
 unfold leV at h;split at h
 ·exact IW h hu
 ·obtain⟨vs,e,ha⟩:=(hu:RV1 C L σ w (.agg _) u)
  exact⟨vs,e,IA h ha⟩
 ·cases h
def vZ:List AV→List AV→Bool
 |[],[]=>true
 |a::r,b::q=>leV a b&&vZ r q
 |_,_=>false
theorem C7 {C:Ctx}{L:List AO}{σ:Sig}{w:World}:∀ {l m:List AV} {us:List Value},vZ l m=true→bv (RV C L σ w) l us→bv (RV C L σ w) m us
 |[],[],_,_,h=>h
 |a::r,b::q,u::us,h,hu=>by
  simp only[vZ,Bool.and_eq_true] at h;exact⟨Sk h.1 hu.1,C7 h.2 hu.2⟩
 |_::_,_::_,[],_,hu=>hu.elim
 |[],_::_,_,h,_=>by cases h
 |_::_,[],_,h,_=>by cases h
def GT:List (FuncId×List AV×AV)→FuncId→List AV→Option AV
 |[],_,_=>none
 |x::r,f,args=>bif Nat.beq f x.1&&vZ args x.2.1 then some x.2.2 else GT r f args
theorem xm {P:Program}{f:FuncId}{args args':List AV}{r:AV}(hl:vZ args args'=true)(h:aY P f args' r):aY P f args r:=
 ⟨h.1,λC L σ w vs hP hI ha=>h.2 C L σ w vs hP hI (C7 hl ha)⟩
def GN (P:Program):List (FuncId×List AV×AV)→Prop
 |[]=>True
 |x::r=>aY P x.1 x.2.1 x.2.2∧GN P r
theorem CG {P:Program}:∀ {tab:List (FuncId×List AV×AV)} {f:FuncId} {args:List AV} {r:AV},GN P tab→GT tab f args=some r→aY P f args r
 |[],_,_,_,_,h=>by cases h
 |x::q,f,args,r,⟨h1,h2⟩,h=>by
  unfold GT at h
  cases e:(Nat.beq f x.1&&vZ args x.2.1) with
  |true=>
   rw[e] at h;simp only[cond_true,Λ] at h;simp only[Bool.and_eq_true] at e;have e3:f=x.1:=Nat.eq_of_beq_eq_true e.1;rw[e3,← h];exact xm e.2 h1
  |false=>rw[e] at h;exact CG h2 h
def TM (E:XE)(n:Nat)(x:FuncId×List AV×AV):Option AV:=
 match E.fn x.1 with
 |some F=>if x.2.1.length≤F.n∧x.2.1.all iK=true then match gD E n x.1 F 0 F.code {env:=cm 0 x.2.1,L:=[]} with
  |some (e,s1)=>if Mz e=true then match JS E.T s1 F.res with
   |some v=>some (fzV s1.L v)
   |none=>none
   else none
  |none=>none
  else none
 |none=>none
def EP (P:Program)(x:FuncId×List AV×AV):Prop:=aY P x.1 x.2.1 x.2.2
theorem aO {P:Program}{E:XE}(hE:XEok P E){n:Nat}{x:FuncId×List AV×AV}(h:TM E n x=some x.2.2):EP P x:=by
 obtain⟨f,args,r⟩:=x;unfold TM at h;simp only at h;show aY P f args r;split at h
 ·rename_i F hF
  obtain⟨fn,q1,q2,q3,q4,q5,q6⟩:=hE.fn _ _ hF;split at h
  ·rename_i hn
   split at h
   ·rename_i e0 s1 hx
    split at h
    ·rename_i hend
     split at h
     ·rename_i v hv
      simp only[Λ] at h;refine BS q1 q2 q3 (by rw[q4];exact hn.1) hn.2 λC hP hN hB=>?_;refine iB (OW hE n f F 0 F.code _ _ _ hx C hP (by rw[hN,q4];exact q6) (by rw[hB];exact Υ _)) λe1 s2 he=>?_;obtain⟨rfl,rfl⟩:=he;exact⟨Eg hend,v,by rw[q5];exact E2 hE.T hv,h⟩
     ·cases h
    ·cases h
   ·cases h
  ·cases h
 ·cases h
structure Mdl where
 nm:Bs
 ins:List Bs
 outs:List Bs
 m:Mly
def Mdl.cs (x:Mdl):List AC:=[.str x.nm,.list .str x.ins,.list .str x.outs,.int .i64 x.m.inp,.int .i64 x.m.st,.list Γ x.m.nx,.list Γ x.m.ot]
def Mdl.av (x:Mdl):AV:=.agg x.cs
structure MVO (x:Mdl):Prop where
 nm:Gv x.nm=true
 ai:AOK x.ins
 ao:AOK x.outs
 mo:MOK x.m
 vm:aK x.m=0
 il:x.m.inp=x.ins.length
 ol:∀ s a:Nat,s<x.m.nx.length→(a:Int)<x.m.inp→(x.m.ot.getD s []).getD a 0<x.outs.length
structure RS where
 nm:Bs
 ins:List Bs
 outs:List Bs
 inp:Int
 st:Int
 nx:List (List Int)
 ot:List (List Int)
 sts:List Bs
 rd:Nat
 lf:Int
 tb:Bool
structure ROK (r:RS):Prop where
 nl:r.nx.length=r.sts.length
 ol:r.ot.length=r.sts.length
 n2:r.sts.length≤128
 i1:1≤r.ins.length
 i2:r.ins.length≤64
 rl:∀ s,s<r.sts.length→(r.nx.getD s []).length=r.ins.length
 ql:∀ s,s<r.sts.length→(r.ot.getD s []).length=r.ins.length
 l0: -2000000≤r.lf
 l1:r.lf≤1000000
structure LOK (r:RS):Prop where
 h3:r.rd=3→r.tb=false∧1≤r.ins.length∧r.ins.length≤64
 h5:5≤r.rd→r.tb=true∧ROK r∧r.outs.length≤1000000
 rl:r.rd≤2000000
structure RI (r:RS):Prop where
 t3:r.rd≤3→r.tb=false
 t4:4≤r.rd→r.tb=true∧ROK r
 a1:2≤r.rd→alE r.ins=0
 a2:3≤r.rd→alE r.outs=0
 lf:4≤r.rd→-(r.rd:Int)≤r.lf∧r.lf≤8192
end Go.AV
