/- Part of the proof. -/
import Derived.Test.YtiedpcchhicifaaGreatDoorW04
set_option linter.unusedSimpArgs false
set_option linter.unusedVariables false
set_option maxRecDepth 100000
set_option maxHeartbeats 4000000
open List renaming getElem?_eq_some_iff→Δ
open Go.Result renaming andThen_ok→Ψ
open Go.Sem renaming run_pure→Ω
open Go.Sem renaming run_bind→Φ
open Option.some renaming injEq→Λ
open Nat renaming le_refl→Υ
namespace Go.AV
open Nat renaming reduceEqDiff→ad,reduceAdd→J,reduceLeDiff→ae,reduceLT→aj,reduceMul→af,reduceSub→ag
open List renaming set_cons_zero→bu,set_cons_succ→bV,getD_cons_zero→aI,length_append→aq,map_cons→aJ,cons_append→aG,map_nil→aV,length_cons→ax,nil_append→aC,take_succ_cons→cE,length_nil→aF,length_map→aE,length_replicate→aB,take_length→aP,mem_cons_self→ba,mem_cons_of_mem→aQ
open Int renaming toNat_natCast→az
def skL (l:Bs):Prop:=l=[]∨l.getD 0 0=35
instance (l:Bs):Decidable (skL l):=by unfold skL;infer_instance
section
variable {xs ys:List Bs} {P:List Bs} {k:Nat} {R:List TRC}
end
structure OCF (cf:List Int→List Int→Int):Prop where
 self:∀ a,cf a a=0
 zero:∀ a b,cf a b=0→a=b
 neg:∀ a b,cf b a= -cf a b
 trans:∀ a b c,cf a b<0→cf b c<0→cf a c<0
theorem LJ:OCF cJ:=⟨mf,λ_ _=>mR,rF,λ_ _ _=>gA⟩
theorem KW:OCF dj:=⟨λa=>by rw[ew,m5],λa b h=>by rw[ew] at h;exact lO h,λa b=>by rw[ew,ew,qH a b],λa b c h k=>by
 rw[ew] at h k⊢;have h1:=lF a b;have h2:=lF b c;have h3:=mj (a:=a) (b:=b) (c:=c) ω ω;omega⟩
theorem OCF.le_trans {cf:List Int→List Int→Int}(h:OCF cf){a b c:List Int}(h1:¬cf b a<0)(h2:¬cf c b<0):¬cf c a<0:=by
 intro h3;have n1:=h.neg b a;have n2:=h.neg c b
 by_cases e:cf a b=0
 ·have:=h.zero a b e;subst this;exact h2 h3
 ·have:=h.trans c a b h3 ω
  exact h2 this
theorem OCF.srt {cf:List Int→List Int→Int}(h:OCF cf)(ws:List (List Int)):(dp cf ws).Pairwise λx y=>¬cf y x<0:=by
 unfold dp;refine(List.pairwise_mergeSort (le:=λx y=>!decide (cf y x<0)) (λa b c h1 h2=>?_) (λa b=>?_) ws).imp ?_
 ·simp only[Bool.not_eq_true',decide_eq_false_iff_not] at*
  exact h.le_trans h1 h2
 ·have:=h.neg a b
  by_cases c:cf b a<0
  ·have:¬cf a b<0:=by omega
   simp[c,this]
  ·simp[c]
 ·intro a b hab
  simpa using hab
theorem DC {cf:List Int→List Int→Int}(h:OCF cf):∀ {l:List (List Int)},l.Pairwise (λx y=>¬cf y x<0)→(dg l).Pairwise λx y=>cf x y<0
 |[],_=>by simp[dg]
 |[x],_=>by simp[dg]
 |x::y::r,hp=>by
  rw[List.pairwise_cons] at hp;have ih:=DC h hp.2;simp only[dg];split
  ·exact ih
  ·rename_i hne
   rw[List.pairwise_cons];refine⟨λz hz=>?_,ih⟩;have hzm:z∈y::r:=kc.1 hz;have h1:=hp.1 z hzm;have n1:=h.neg x z
   by_cases e:cf x z=0
   ·exfalso
    have hxz:=h.zero x z e;have h2:=hp.1 y η;have h3:¬cf z y<0:=by
     rcases List.mem_cons.1 hzm with rfl|hz2
     ·rw[h.self];omega
     ·exact(List.pairwise_cons.1 hp.2).1 z hz2
    rw[← hxz] at h3;have n2:=h.neg x y;exact hne (h.zero x y ω)
   ·omega
theorem Io {cf:List Int→List Int→Int}(h:OCF cf):∀ {l k:List (List Int)},l.Pairwise (λx y=>cf x y<0)→k.Pairwise (λx y=>cf x y<0)→(∀ x,x∈l↔x∈k)→l=k
 |[],[],_,_,_=>rfl
 |[],y::k,_,_,hm=>by have:=(hm y).2 η;cases this
 |x::l,[],_,_,hm=>by have:=(hm x).1 η;cases this
 |x::l,y::k,h1,h2,hm=>by
  rw[List.pairwise_cons] at h1 h2;have hirr:∀ z,¬cf z z<0:=λz=>by rw[h.self];omega
  have hxy:x=y:=by
   rcases List.mem_cons.1 ((hm x).1 η) with e|e
   ·exact e
   ·rcases List.mem_cons.1 ((hm y).2 η) with e2|e2
    ·exact e2.symm
    ·have a1:=h2.1 x e
     have a2:=h1.1 y e2;exact absurd (h.trans x y x a2 a1) (hirr x)
  subst hxy
  congr 1
  refine Io h h1.2 h2.2 λz=>⟨λhz=>?_,λhz=>?_⟩
  ·rcases List.mem_cons.1 ((hm z).1 (aQ _ hz)) with e|e
   ·subst e;exact absurd (h1.1 z hz) (hirr z)
   ·exact e
  ·rcases List.mem_cons.1 ((hm z).2 (aQ _ hz)) with e|e
   ·subst e;exact absurd (h2.1 z hz) (hirr z)
   ·exact e
def JF (cf:List Int→List Int→Int):List (List Int)→Bool
 |[]=>true
 |x::r=>r.all (λy=>decide (cf x y<0))&&JF cf r
theorem Cb {cf:List Int→List Int→Int}:∀ {l:List (List Int)},JF cf l=true→l.Pairwise λx y=>cf x y<0
 |[],_=>List.Pairwise.nil
 |x::r,h=>by
  simp only[JF,Bool.and_eq_true,List.all_eq_true,decide_eq_true_eq] at h;exact List.pairwise_cons.2 ⟨h.1,Cb h.2⟩
def Cw (cf:List Int→List Int→Int)(ws L:List (List Int)):Bool:=JF cf L&&(ws.all (λw=>L.any (λu=>decide (u=w)))&&L.all (λw=>ws.any (λu=>decide (u=w))))
theorem Dw {cf:List Int→List Int→Int}(h:OCF cf){ws L:List (List Int)}(hb:Cw cf ws L=true):dg (dp cf ws)=L:=by
 simp only[Cw,Bool.and_eq_true,List.all_eq_true,List.any_eq_true,decide_eq_true_eq] at hb;refine Io h (DC h (h.srt ws)) (Cb hb.1) λx=>?_;rw[kc,gP]
 constructor
 ·intro hx
  obtain⟨u,hu,rfl⟩:=hb.2.1 x hx;exact hu
 ·intro hx
  obtain⟨u,hu,rfl⟩:=hb.2.2 x hx;exact hu
theorem uK {ws L:List (List Int)}(hb:Cw cJ ws L=true):wsS ws=L:=Dw LJ hb
theorem uJ {ws:List (List Int)}(O M:List (List Int))(hb:Cw dj ws O=true)(hm:Cw cJ (mxF O O.length) M=true):mxS ws=M:=by
 unfold mxS fG;rw[Dw KW hb];exact uK hm
def M9 (X:List TRC):Bool:=match X with|[]=>true|u::r=>r.all (λv=>decide (cJ u.1 v.1<0))&&M9 r
theorem kA:∀ {X:List TRC},M9 X=true→SRT X
 |[],_=>List.Pairwise.nil
 |u::r,h=>by
  simp only[M9,Bool.and_eq_true,List.all_eq_true,decide_eq_true_eq] at h;exact List.pairwise_cons.2 ⟨h.1,kA h.2⟩
def lbB (X:List TRC):Bool:=X.all λu=>decide (u.1.length≤100000)&&decide (u.2.1.length≤100000)
theorem oY {X:List TRC}(h:lbB X=true):LB 100000 X:=λu hu=>by
 have:=List.all_eq_true.1 h u hu
 simpa using this
theorem tq:∀ {v w:List Int} {k:Nat},k<v.length→k<w.length→(∀ j,j<k→v.getD j 0=w.getD j 0)→¬v.getD k 0=w.getD k 0→jh v w=k
 |a::v,b::w,0,_,_,_,h=>by
  have h':¬a=b:=h;rw[jh,if_neg h']
 |a::v,b::w,k+1,h1,h2,hj,h=>by
  have h0:a=b:=hj 0 ω;rw[jh,if_pos h0,tq (k:=k) (by simpa using h1) (by simpa using h2) (λj hh=>by simpa [List.getD] using hj (j+1) ω) (by simpa [List.getD] using h)]
 |[],_,_,h,_,_,_=>by simp at h
 |_::_,[],_,_,h,_,_=>by simp at h
theorem pH:∀ {v w:List Int} {k:Nat},k≤v.length→k≤w.length→(∀ j,j<k→v.getD j 0=w.getD j 0)→(k=v.length∨k=w.length)→jh v w=k
 |[],_,k,h1,_,_,_=>by simp only[aF] at h1;rw[show k=0 by omega];rfl
 |_::_,[],k,_,h2,_,_=>by simp only[aF] at h2;rw[show k=0 by omega];rfl
 |a::v,b::w,0,_,_,_,h=>by simp at h
 |a::v,b::w,k+1,h1,h2,hj,h=>by
  have h0:a=b:=hj 0 ω;rw[jh,if_pos h0,pH (k:=k) (by simpa using h1) (by simpa using h2) (λj hh=>by simpa [List.getD] using hj (j+1) ω) (by simpa using h)]
theorem vC:∀ (l:List (List Int)) (x:List Int),dg (l++[x])=if l.getLast? =some x then dg l else dg l++[x]
 |[],x=>by simp[dg]
 |[y],x=>by
  simp only[aG,aC,dg,List.getLast?_singleton,Λ];split<;>simp_all
 |y::z::r,x=>by
  have ih:=vC (z::r) x;have e:(y::z::r).getLast? =(z::r).getLast?:=by simp[List.getLast?_cons_cons]
  rw[e];show dg (y::z::(r++[x]))=_;rw[show z::r++[x]=z::(r++[x]) from rfl] at ih;simp only[dg];rw[ih]
  by_cases h1:y=z<;>by_cases h2:(z::r).getLast? =some x<;>simp[h1,h2]
theorem CR {xs:List (List Int)}{i:Nat}(h0:0<i)(h:i≤xs.length):(xs.take i).getLast? =some (xs.getD (i-1) []):=by
 rw[List.getLast?_eq_getElem?,List.length_take,Nat.min_eq_left h,List.getElem?_take_of_lt ω];simp[List.getD,show i-1<xs.length by omega]
theorem lE {xs:List (List Int)}{i:Nat}(h0:0<i)(h:i<xs.length):dg (xs.take (i+1))=if xs.getD i []=xs.getD (i-1) [] then dg (xs.take i) else dg (xs.take i)++[xs.getD i []]:=by
 rw[List.take_succ_eq_append_getElem h,vC,CR h0 (Nat.le_of_lt h)];have e:xs[i]=xs.getD i []:=by simp[List.getD,h]
 rw[e]
 by_cases h1:xs.getD i []=xs.getD (i-1) []
 ·rw[if_pos (by rw[h1]),if_pos h1]
 ·rw[if_neg (by intro h2;exact h1 (Option.some.inj h2).symm),if_neg h1]
theorem L3 {xs:List (List Int)}{i:Nat}(h0:0<i)(h:i<xs.length)(hd:dg (xs.take i)=xs.take i)(hn:¬xs.getD i []=xs.getD (i-1) []):dg (xs.take (i+1))=xs.take (i+1):=by
 rw[lE h0 h,if_neg hn,hd,List.take_succ_eq_append_getElem h]
 congr 1
 simp[List.getD,h]
theorem Kx {xs:List (List Int)}{i:Nat}(h0:0<i)(h:i<xs.length)(hd:dg (xs.take i)=xs.take i)(hn:xs.getD i []=xs.getD (i-1) []):xs.take i=dg (xs.take (i+1)):=by
 rw[lE h0 h,if_pos hn,hd]
theorem zm {xs:List (List Int)}:dg (xs.take 1)=xs.take 1:=by
 cases xs with
 |nil=>rfl
 |cons x r=>rfl
theorem rU {xs:List (List Int)}{k:Nat}(h:xs.length≤k)(hd:dg (xs.take k)=xs.take k):dg xs=xs:=by
 rwa[List.take_of_length_le h] at hd
theorem nu {xs:List (List Int)}(h:xs.length<2):dg xs=xs:=by
 have:=zm (xs:=xs);rwa[List.take_of_length_le ω] at this
theorem Hg {ys D:List (List Int)}{k:Nat}{x:List Int}(h:ys.take k=D)(hk:k<ys.length):(ys.set k x).take (k+1)=D++[x]:=by
 rw[List.take_succ_eq_append_getElem (by simpa using hk),List.take_set_of_le (Υ _),h];simp
theorem Hp {ys:List (List Int)}{k j:Nat}{x:List Int}(h:k<j):(ys.set k x).getD j []=ys.getD j []:=by
 simp only[List.getD];rw[List.getElem?_set_ne ω]
theorem SE {ys:List (List Int)}{k n:Nat}(h:k≤ys.length):(ys.take k++List.replicate n ([]:List Int)).take k=ys.take k:=by
 rw[List.take_append_of_le_length (by simp;omega),List.take_of_length_le (by simp;omega)]
section
open Go.RowKit
variable {C:Ctx} {L0:List AO} {o:Oper} {opn:Operand→AV}
theorem oQ {L:List AO}{σ:Sig}{w:World}{k ver p:Nat}{cp:Option Nat}{t:Ty}{e:TypeId}{xs:List t.den}{v:Value}(hi:INV C L σ w)(hk:L[k]? =some (.row t e ver xs))(hv:RC C L σ w (.suf k ver p cp) v):
 ∃ b c q cur,(∀ x,cp=some x→c=x)∧σ k= .slice (some ⟨b,0,none⟩) xs.length c∧p≤xs.length∧v= .slice (some ⟨b,q,none⟩) (xs.length-p) (c-p)∧(c-p≠0→q=p*t.size)∧
   w.heap[b]? =some (.cells cur e (0,0))∧xs.length≤c∧c≤maxLen∧cur.size=c*t.size∧0<t.size∧
   (∀ i,i<xs.length→Dat (avd C L σ) w t (xs.getD i t.dflt) (((cur.toList.take (xs.length*t.size)).drop (i*t.size)).take t.size)):=by
 obtain⟨_,ob,h2,h3,h4⟩:=hv;rw[hk] at h2;cases h2;obtain⟨_,b,n,c,q,h5,h6,h7,h8,h9⟩:=h4 rfl rfl;obtain⟨flat,g1,g2,g3⟩:=hi.ob k _ hk;rcases g1.2 with⟨e1,_⟩|⟨g,cap,cur,e1,_,e3,e4,e5,e6,e7⟩
 ·rw[e1] at h6;cases h6
 ·rw[e1] at h6
  cases h6
  exact⟨b,c,q,cur,h5,e1,h7,h8,h9,e3,e4,e5,e6,g2,λi hi=>by rw[e7];exact g3 i hi⟩
theorem ph {T:TypeId}{td:TD}{x:Operand}{ats:Array TypeId}{k ver p:Nat}{cp:Option Nat}{t:Ty}{e:TypeId}{xs:List t.den}(ho:o.op= .call {callee:=.builtin .len,args:=#[x],argTypes:=ats})(ha:ats[0]? =some T)(ht:aN C.P T=some td)
 {e9:TypeId} (hk:td.k= .slice e9) (hx':opn x= .one (.suf k ver p cp)) (hob:L0[k]? =some (.row t e ver xs)):bG C L0 o opn {av:=.one (.int .i64 ((xs.length-p:Nat):Int)),fp:=[k]}:=by
 intro L σ w ρ hi hx hfp hlen;have hx1:=hx x (by simp[ho,Op.operands,Call.operands]);rw[hx'] at hx1;have hob':L[k]? =some (.row t e ver xs):=by rw[hfp k η];exact hob
 obtain⟨b,c,q,cur,h5,h6,h7,h8,h9,_⟩:=oQ hi hob' hx1;obtain⟨d,hd,hkd,hu⟩:=bS ht w;rw[hk] at hkd;have:=bW hkd;subst this;have hrun:(Builtin.len_ ats o.type #[ρ x]).run C.P w= .ok (.int .i64 ((xs.length-p:Nat):Int)) w:=by
  simp[Builtin.len_,ha,hd,h8,goInt]
 simp only[ho,execOp,resolve,invoke,builtin,Φ,Ω,Ψ,List.map_toArray,aJ,aV,hrun,bI];exact aZ hi ⟨rfl,rfl⟩
theorem fZ {T e:TypeId}{td te:TD}{x ix:Operand}{k ver p:Nat}{cp:Option Nat}{t:Ty}{e':TypeId}{xs:List t.den}{kk:IntKind}{i:Int}(ho:o.op= .indexAddr T x ix)(ht:aN C.P T=some td)(hk:td.k= .slice e)(hte:aN C.P e=some te)(hsz:te.size=t.size)
 (hx':opn x= .one (.suf k ver p cp)) (hob:L0[k]? =some (.row t e' ver xs)) (hi':opn ix= .one (.int kk i)) (h0:0≤i) (h1:i<(xs.length-p:Nat)):bG C L0 o opn {av:=.one (.ptr k ver (p+i.toNat) 0),fp:=[k]}:=by
 intro L σ w ρ hi hx hfp hlen;have hx1:=hx x (by simp[ho,Op.operands]);have hx2:=hx ix (by simp[ho,Op.operands]);rw[hx'] at hx1;rw[hi'] at hx2;have e2:ρ ix= .int kk i:=hx2.2;have hob':L[k]? =some (.row t e' ver xs):=by rw[hfp k η];exact hob
 obtain⟨b,c,q,cur,h5,h6,h7,h8,h9,_,h11,_⟩:=oQ hi hob' hx1;have hq:=h9 ω;subst hq;simp only[ho,execOp,h8,e2,Φ,jQ ht hk hte b (p*t.size) _ (c-p) kk i h0 h1,Ψ,Ω,bI];refine aZ hi ⟨rfl,.row t e' ver xs,hob',Υ _,λ_ _=>⟨b,by rw[h6];rfl,?_⟩⟩;simp[AO.esize,hsz,Nat.add_mul]
theorem ly {T e:TypeId}{td te:TD}{t:Ty}{e':TypeId}{xs:List t.den}{x:Operand}{k ver:Nat}{lo:Option Operand}{l:Int}(ho:o.op= .slice T x lo none none)(ht:aN C.P T=some td)(hk:td.k= .slice e)(hte:aN C.P e=some te)(hsz:te.size=t.size)
 (hx':opn x= .one (.row k ver)) (hob:L0[k]? =some (.row t e' ver xs)) (hlo:bnd opn 0 lo=some l) (h0:0<xs.length) (h1:0≤l) (h2:l≤xs.length):
 bG C L0 o opn {av:=.one (.suf k ver l.toNat none),fp:=[k]}:=by
 intro L σ w ρ hi' hx hfp hlen;have hx1:=hx x (by simp[ho,Op.operands]);rw[hx'] at hx1;have b1:=fk hlo (λy hy=>hx y (by simp[ho,Op.operands,hy]));have hob':L[k]? =some (.row t e' ver xs):=by rw[hfp k η];exact hob
 obtain⟨ob,q2,q3,q4⟩:=hx1.2;rw[hob'] at q2;cases q2;obtain⟨_,e1⟩:=q4 rfl rfl;obtain⟨flat,h5,h6,h7⟩:=hi'.ob k _ hob';obtain⟨d,hd,hkd,hu⟩:=bS ht w;rw[hk] at hkd;have:=bW hkd;subst this;rcases h5.2 with⟨e2,e3⟩|⟨g,cap,cur,e2,g1,g2,g3,g4,g5,g6⟩
 ·omega
 ·have hb:=eP (P:=C.P) (w:=w) (isSlice:=true) (len:=xs.length) (cap:=cap) (hi:=none) (h:=xs.length) h1 h2 (Int.le_refl _) g3 b1 (.inl ⟨rfl,rfl⟩)
  have hrun:∃ q,(Instr.sliceAt T (σ k) (lo.map ρ) none none).run C.P w= .ok (.slice (some ⟨g,q,none⟩) (xs.length-l.toNat) (cap-l.toNat)) w∧(cap-l.toNat≠0→q=l.toNat*t.size):=by
   rw[e2];simp only[Instr.sliceAt,Φ,hd,Ψ,Instr.slice,hb,bT hte w,Ω]
   by_cases hc:cap=l.toNat
   ·exact⟨0,by simp[hc],λh=>absurd ω h⟩
   ·exact⟨l.toNat*t.size,by simp[hc,add_lit,hsz],λ_=>rfl⟩
  obtain⟨q,hrun,hq⟩:=hrun;simp only[ho,execOp,e1,Option.map_none,Φ,hrun,Ψ,Ω,bI];exact aZ hi' ⟨rfl,.row t e' ver xs,hob',Υ _,λ_ _=>⟨⟨_,_,_,rfl⟩,g,xs.length,cap,q,(λx h=>by cases h),e2,ω,rfl,hq⟩⟩
theorem uB {T e:TypeId}{td te:TD}{t:Ty}{e':TypeId}{xs:List t.den}{x:Operand}{k ver p:Nat}{cp:Option Nat}{lo:Option Operand}{l:Int}(ho:o.op= .slice T x lo none none)(ht:aN C.P T=some td)(hk:td.k= .slice e)(hte:aN C.P e=some te)(hsz:te.size=t.size)
 (hx':opn x= .one (.suf k ver p cp)) (hob:L0[k]? =some (.row t e' ver xs)) (hlo:bnd opn 0 lo=some l) (h1:0≤l) (h2:l≤(xs.length-p:Nat)):
 bG C L0 o opn {av:=.one (.suf k ver (p+l.toNat) cp),fp:=[k]}:=by
 intro L σ w ρ hi' hx hfp hlen;have hx1:=hx x (by simp[ho,Op.operands]);rw[hx'] at hx1;have b1:=fk hlo (λy hy=>hx y (by simp[ho,Op.operands,hy]));have hob':L[k]? =some (.row t e' ver xs):=by rw[hfp k η];exact hob
 obtain⟨b,c,q,cur,h5,h6,h7,h8,h9,h10,h11,_⟩:=oQ hi' hob' hx1;obtain⟨d,hd,hkd,hu⟩:=bS ht w;rw[hk] at hkd;have:=bW hkd;subst this;have hb:=eP (P:=C.P) (w:=w) (isSlice:=true) (len:=xs.length-p) (cap:=c-p) (hi:=none) (h:=((xs.length-p:Nat):Int)) h1 h2 (Int.le_refl _) ω b1 (.inl ⟨rfl,rfl⟩);have hrun:∃ q2,(Instr.sliceAt T (ρ x) (lo.map ρ) none none).run C.P w= .ok (.slice (some ⟨b,q2,none⟩) (xs.length-(p+l.toNat)) (c-(p+l.toNat))) w∧(c-(p+l.toNat)≠0→q2=(p+l.toNat)*t.size):=by
  rw[h8];simp only[Instr.sliceAt,Φ,hd,Ψ,Instr.slice,hb,bT hte w,Ω]
  by_cases hc:c-p=l.toNat
  ·have h3:c-(p+l.toNat)=0:=by omega
   have h4:xs.length-(p+l.toNat)=xs.length-p-l.toNat:=ω;exact⟨q,by simp[hc,h3,h4],λh=>by omega⟩
  ·have hq:=h9 ω
   subst hq;refine⟨(p+l.toNat)*t.size,?_,λ_=>rfl⟩;have h3:xs.length-p-l.toNat=xs.length-(p+l.toNat):=ω;have h4:c-p-l.toNat=c-(p+l.toNat):=ω;simp[hc,add_lit,hsz,Nat.add_mul,h3];omega
 obtain⟨q2,hrun,hq⟩:=hrun;simp only[ho,execOp,Option.map_none,Φ,hrun,Ψ,Ω,bI];exact aZ hi' ⟨rfl,.row t e' ver xs,hob',Υ _,λ_ _=>⟨⟨_,_,_,rfl⟩,b,xs.length,c,q2,h5,h6,ω,rfl,hq⟩⟩
theorem pG {P:Program}(w:World)(t ty e:TypeId)(i:TypeInfo)(ht:P.underlying t=some (.slice e))(hi:P.info? e=some i)
 (g q sLen sCap:Nat) (cur:Array Value) (hg:w.heap[g]? =some (.cells cur e (0,0)))
 (a:Addr) (m c:Nat) (news:List Value) (hl:news.length=m*i.size) (hnews:∀ j u,news[j]? =some u→w.cell? (a.add j)=some u) (h1:∀ u∈news,u.oneCell'=true)
 (hroom:sLen+m≤sCap) (hfit:q+sLen*i.size+news.length≤cur.size):
 (Builtin.append_ #[t,t] ty #[.slice (some ⟨g,q,none⟩) sLen sCap,.slice (some a) m c]).run P w=
   .ok (.slice (some ⟨g,q,none⟩) (sLen+m) sCap) (w.setRow g (cur.toList.take (q+sLen*i.size)++news++cur.toList.drop (q+sLen*i.size+news.length)).toArray):=by
 have hf:=run_firstCells_some (P:=P) w i.size m a m c news hl hnews;have hst:=run_storeCells_at P g (q+sLen*i.size) e news 0 cur w hg (by simpa using hfit) h1;simp only[Nat.add_zero] at hst;simp[Builtin.append_,run_underlying ht,sizeOf,typeInfo,hi,Builtin.lenOf,hroom,hf,add_lit,hst]
theorem yi {α:Type}{l:List α}{m n i k:Nat}(h:i+k≤m)(hmn:m≤n):((l.take n).drop i).take k=((l.take m).drop i).take k:=by
 rw[List.drop_take,List.drop_take,List.take_take,List.take_take,Nat.min_eq_left ω,Nat.min_eq_left ω]
theorem sS {T e:TypeId}{td te:TD}{x y:Operand}{ats:Array TypeId}{k ver p c9:Nat}{t:Ty}{xs ys:List t.den}{c:AC}(ho:o.op= .call {callee:=.builtin .append,args:=#[x,y],argTypes:=ats})(ha:ats= #[T,T])
 (ht:aN C.P T=some td) (hk:td.k= .slice e) (hte:aN C.P e=some te) (hsz:te.size=t.size)
 (hx':opn x= .one (.suf k ver p (some c9))) (hob:L0[k]? =some (.row t e ver xs)) (hy':opn y= .one c) (hs:di t c=some ys) (hy0:0<ys.length) (hroom:xs.length+ys.length≤c9):
 bG C L0 o opn {av:=.one (.suf k (ver+1) p (some c9)),upd:=[(k,.row t e (ver+1) (xs++ys))],fp:=[k]}:=by
 intro L σ w ρ hi hx hfp _;have hx1:=hx x (by simp[ho,Op.operands,Call.operands]);have hx2:=hx y (by simp[ho,Op.operands,Call.operands]);rw[hx'] at hx1;rw[hy'] at hx2;have hob':L[k]? =some (.row t e ver xs):=by rw[hfp k η];exact hob
 have hlt:k<L.length:=(Δ.1 hob').1;obtain⟨b,c8,q,cur,h5,h6,h7,h8,h9,h10,h11,h12,h13,h14,h15⟩:=oQ hi hob' hx1;have:=h5 c9 rfl;subst this;have hq:=h9 ω;subst hq;obtain⟨d,i,z,t1,t2,t3,t4,t5,t6,t7⟩:=cU ht;rw[hk] at t7;have:=bW t7;subst this;obtain⟨d',ie,ze,g1,g2,g3,g4,g5,g6,g7⟩:=cU hte;have hsi:ie.size=t.size:=by rw[g5,hsz]
 obtain⟨A,ca,e1,k1,k2,k3⟩:=qF (L:=L) (σ:=σ) (w:=w) hs hx2;simp only[List.cons.injEq,and_true] at e1;obtain⟨b2,o2,rfl,k4,k5,k6⟩:=k3 hy0;obtain⟨news,n1,n2,n3,n4⟩:=oK h14 k6;have hm1:p*t.size+(xs.length-p)*t.size=xs.length*t.size:=by rw[← Nat.add_mul];congr 1;omega
 have hm2:(xs.length+ys.length)*t.size≤c8*t.size:=Nat.mul_le_mul_right _ hroom;rw[Nat.add_mul] at hm2;have hrun:=pG (P:=C.P) w T o.type e ie t1 g2 b (p*t.size) (xs.length-p) (c8-p) cur h10 ⟨b2,o2,none⟩ ys.length ca news (by rw[hsi];exact n1) n2 n3 ω (by rw[hsi,hm1,n1,h13];exact hm2);rw[hsi,hm1] at hrun
 generalize hw':w.setRow b _=w' at hrun
 have hheap:w'.heap[b]? =some (.cells (cur.toList.take (xs.length*t.size)++news++cur.toList.drop (xs.length*t.size+news.length)).toArray e (0,0)):=by rw[← hw'];exact setRow_heap w b cur _ e _ h10
 have hoth:∀ j,j≠b→w'.heap[j]? =w.heap[j]?:=λj hj=>by rw[← hw'];exact setRow_other w b j _ hj
 have hsize:w'.heap.size=w.heap.size:=by rw[← hw'];simp[World.setRow]
 have hos:w'.os=w.os∧w'.tape=w.tape∧w'.output=w.output:=by rw[← hw'];exact⟨rfl,rfl,rfl⟩
 have hown:own L σ k b:=⟨_,hob',rfl,by rw[h6];rfl⟩
 have hcl:cur.toList.length=c8*t.size:=by rw[Array.length_toList];exact h13
 have hfl:(cur.toList.take (xs.length*t.size)).length=xs.length*t.size:=by rw[List.length_take,hcl];omega
 have htk:(cur.toList.take (xs.length*t.size)++news++cur.toList.drop (xs.length*t.size+news.length)).take ((xs.length+ys.length)*t.size)=cur.toList.take (xs.length*t.size)++news:=by
  rw[Nat.add_mul,← n1,List.take_append_of_le_length (by simp;omega),List.take_of_length_le (by simp;omega)]
 simp only[ho,ha,execOp,resolve,invoke,builtin,h8,e1,Φ,Ω,Ψ,List.map_toArray,aJ,aV,hrun,bI];refine cI (σ':=sup σ k (.slice (some ⟨b,0,none⟩) (xs.length+ys.length) c8)) hi hob' ω hos.1 hos.2.1 hos.2.2
  (λj hj hno=>hoth j (λej=>hno (ej▸hown))) (λj hj=>d6 σ _ hj) ⟨Nat.le_succ _,λ_ h=>by simp[AO.ver] at h⟩
  (λ_ j hj=>?_) (λhp hav=>?_) (λhI _=>?_)
 ·rw[aR] at hj
  simp only[blk,Λ] at hj;exact .inl (hj▸hown)
 ·have hkeep:∀ {t':Ty} {d:t'.den} {cs:List Value},Dat (avd C L σ) w t' d cs→Dat (avd C (L.set k (.row t e (ver+1) (xs++ys))) (sup σ k (.slice (some ⟨b,0,none⟩) (xs.length+ys.length) c8))) w' t' d cs:=λhd=>
   hd.keep ω (λb9 hb ha=>hoth b9 (λej=>ha (.inr ⟨k,ej▸hown⟩))) hav
  refine⟨cur.toList.take (xs.length*t.size)++news,?_,h14,λi hil=>?_⟩
  ·rw[aR]
   refine⟨by rw[aq,hfl,n1,aq,Nat.add_mul],.inr ⟨b,c8,_,by rw[aq],Nat.zero_le _,hheap,by rw[aq];omega,h12,by rw[List.size_toArray,aq,aq,hfl,List.length_drop,hcl];omega,?_⟩⟩;rw[aq,List.toList_toArray];exact htk
  ·by_cases hix:i<xs.length
   ·have:(xs++ys).getD i t.dflt=xs.getD i t.dflt:=by simp[List.getD,hix,List.getElem?_append_left hix]
    have hm:(i+1)*t.size≤xs.length*t.size:=Nat.mul_le_mul_right _ hix;rw[Nat.add_mul,Nat.one_mul] at hm;rw[this,List.drop_append_of_le_length ω,List.take_append_of_le_length (by rw[List.length_drop];omega)];exact hkeep (h15 i hix)
   ·have hil':i<xs.length+ys.length:=by simpa using hil
    have:(xs++ys).getD i t.dflt=ys.getD (i-xs.length) t.dflt:=by simp[List.getD,List.getElem?_append_right (Nat.le_of_not_lt hix)]
    have h8:=n4 (i-xs.length) ω;have hd:(cur.toList.take (xs.length*t.size)++news).drop (i*t.size)=news.drop ((i-xs.length)*t.size):=by
     have:i*t.size=xs.length*t.size+(i-xs.length)*t.size:=by rw[← Nat.add_mul];congr 1;omega
     rw[List.drop_append,List.drop_eq_nil_of_le ω,aC,hfl];congr 1;omega
    rw[this,hd];exact hkeep h8
 ·have e9:xs.length-p+ys.length=xs.length+ys.length-p:=by omega
  exact⟨rfl,.row t e (ver+1) (xs++ys),by simp[hlt],Υ _,λ_ _=>⟨⟨_,_,_,rfl⟩,b,xs.length+ys.length,c8,p*t.size,(λx h=>by cases h;rfl),aR _ _ _,ω,by rw[e9],λ_=>rfl⟩⟩
theorem qh {T e:TypeId}{td te:TD}{x y:Operand}{ats:Array TypeId}{k ver p c9:Nat}{t:Ty}{xs ys:List t.den}{c:AC}(ho:o.op= .call {callee:=.builtin .append,args:=#[x,y],argTypes:=ats})(ha:ats= #[T,T])
 (ht:aN C.P T=some td) (hk:td.k= .slice e) (hte:aN C.P e=some te) (hsz:te.size=t.size) (hz:te.zero.length=t.size)
 (hx':opn x= .one (.suf k ver p (some c9))) (hob:L0[k]? =some (.row t e ver xs)) (hy':opn y= .one c) (hs:di t c=some ys) (hy0:0<ys.length) (hroom:c9<xs.length+ys.length)
 (hlen:(xs.length+ys.length)*te.bytes≤140737488355328) (hml:xs.length+ys.length≤9223372036854775807):
 bG C L0 o opn {av:=.one (.row k (ver+1)),upd:=[(k,.row t e (ver+1) (xs.drop p++ys))],fp:=[k]}:=by
 intro L σ w ρ hi hx hfp _;have hx1:=hx x (by simp[ho,Op.operands,Call.operands]);have hx2:=hx y (by simp[ho,Op.operands,Call.operands]);rw[hx'] at hx1;rw[hy'] at hx2;have hob':L[k]? =some (.row t e ver xs):=by rw[hfp k η];exact hob
 have hlt:k<L.length:=(Δ.1 hob').1;obtain⟨b,c8,q,cur,h5,h6,h7,h8,h9,h10,h11,h12,h13,h14,h15⟩:=oQ hi hob' hx1;have:=h5 c9 rfl;subst this;obtain⟨d,i,z,t1,t2,t3,t4,t5,t6,t7⟩:=cU ht;rw[hk] at t7;have:=bW t7;subst this;obtain⟨d',ie,ze,g1,g2,g3,g4,g5,g6,g7⟩:=cU hte;have hsi:ie.size=t.size:=by rw[g5,hsz]
 have hzs:ze.cells.size=t.size:=by
  have:∀ (vs:List Value) (cs:List AC),j8 vs=some cs→vs.length=cs.length:=by
   intro vs
   induction vs with
   |nil=>intro cs h;simp only[j8,Λ] at h;subst h;rfl
   |cons v vs ih=>
    intro cs h;simp only[j8] at h;split at h
    ·rename_i c cs' _ h'
     simp only[Λ] at h;subst h;simp[ih _ h']
    ·cases h
  have:=this _ _ g4;rw[Array.length_toList] at this;rw[this,hz]
 obtain⟨A,ca,e1,k1,k2,k3⟩:=qF (L:=L) (σ:=σ) (w:=w) hs hx2;simp only[List.cons.injEq,and_true] at e1;obtain⟨b2,o2,rfl,k4,k5,k6⟩:=k3 hy0;obtain⟨news,n1,n2,n3,n4⟩:=oK h14 k6;have hcl:cur.toList.length=c8*t.size:=by rw[Array.length_toList];exact h13
 have hm0:xs.length*t.size≤c8*t.size:=Nat.mul_le_mul_right _ h11;have hfl:(cur.toList.take (xs.length*t.size)).length=xs.length*t.size:=by rw[List.length_take,hcl];omega
 let olds:=(cur.toList.take (xs.length*t.size)).drop (p*t.size)
 have hol:olds.length=(xs.length-p)*t.size:=by show((cur.toList.take (xs.length*t.size)).drop (p*t.size)).length=_;rw[List.length_drop,hfl,Nat.sub_mul]
 have holds:∀ j v,olds[j]? =some v→w.cell? ((⟨b,q,none⟩:Addr).add j)=some v:=by
  intro j v hv;have hj:j<olds.length:=(Δ.1 hv).1;have hnp:xs.length-p≠0:=by intro h0;rw[hol,h0] at hj;omega
  have hq:=h9 ω;subst hq;rw[add_lit,ee h10];have:olds[j]? =cur.toList[p*t.size+j]?:=by
   show((cur.toList.take (xs.length*t.size)).drop (p*t.size))[j]? =_;rw[hol] at hj;have hm1:p*t.size+(xs.length-p)*t.size=xs.length*t.size:=by rw[← Nat.add_mul];congr 1;omega
   rw[List.getElem?_drop,List.getElem?_take_of_lt ω]
  rw[this] at hv
  simpa using hv
 have hfit:Builtin.nextslicecap (xs.length-p+ys.length) (c8-p)*ie.bytes≤281474976710656:=growslice_fits ω (by rw[g6];exact Nat.le_trans (Nat.mul_le_mul_right _ ω) hlen);have hrun:=run_append_grow (P:=C.P) w T o.type e ie ze t1 g2 g3 ⟨b,q,none⟩ (xs.length-p) (c8-p) olds (by rw[hsi];exact hol) holds ⟨b2,o2,none⟩ ys.length ca news (by rw[hsi];exact n1) n2 ω ω hfit
 generalize hcap:grownCap w (xs.length-p+ys.length) (c8-p) e=gc at hrun
 have hge:xs.length-p+ys.length≤gc:=by rw[← hcap];exact grownCap_ge w _ _ e
 have hcm:gc≤maxLen:=by rw[← hcap];exact grownCap_le_maxLen w _ _ e (by simp only[maxLen];omega)
 generalize hw':w.drew.alloc _=w' at hrun
 have hsize:w'.heap.size=w.heap.size+1:=by rw[← hw'];simp
 have hheap:w'.heap[w.heap.size]? =some (.cells (olds.toArray++news.toArray++Builtin.zeroCells ze.cells (gc-(xs.length-p+ys.length))) e (0,0)):=by rw[← hw'];exact heap_alloc_new w.drew _
 have hoth:∀ j,j<w.heap.size→w'.heap[j]? =w.heap[j]?:=λj hj=>by rw[← hw'];exact heap_alloc_old w.drew _ hj
 have hos:w'.os=w.os∧w'.tape=w.tape∧w'.output=w.output:=by rw[← hw'];exact⟨rfl,rfl,rfl⟩
 have hdl:(xs.drop p++ys).length=xs.length-p+ys.length:=η;simp only[ho,ha,execOp,resolve,invoke,builtin,h8,e1,Φ,Ω,Ψ,List.map_toArray,aJ,aV,hrun,bI];refine cI (σ':=sup σ k (.slice (some ⟨w.heap.size,0,none⟩) (xs.length-p+ys.length) gc)) hi hob' ω hos.1 hos.2.1 hos.2.2
  (λj hj hno=>hoth j hj) (λj hj=>d6 σ _ hj) ⟨Nat.le_succ _,λ_ h=>by simp[AO.ver] at h⟩
  (λ_ j hj=>?_) (λhp hav=>?_) (λhI _=>?_)
 ·rw[aR] at hj
  simp only[blk,Λ] at hj;exact .inr ω
 ·have hkeep:∀ {t':Ty} {d:t'.den} {cs:List Value},Dat (avd C L σ) w t' d cs→Dat (avd C (L.set k (.row t e (ver+1) (xs.drop p++ys))) (sup σ k (.slice (some ⟨w.heap.size,0,none⟩) (xs.length-p+ys.length) gc))) w' t' d cs:=λhd=>
   hd.keep ω (λb9 hb ha=>hoth b9 hb) hav
  refine⟨olds++news,?_,h14,λi hil=>?_⟩
  ·rw[aR]
   refine⟨by rw[aq,hol,n1,hdl,Nat.add_mul],.inr ⟨w.heap.size,gc,_,by rw[hdl],Nat.zero_le _,hheap,by rw[hdl];exact hge,hcm,?_,?_⟩⟩
   ·simp only[Array.size_append,List.size_toArray,size_zeroCells,hzs,hol,n1,← Nat.add_mul]
    congr 1;omega
   ·rw[hdl]
    simp only[Array.toList_append,List.append_assoc];rw[← List.append_assoc,show(xs.length-p+ys.length)*t.size=(olds++news).length by rw[aq,hol,n1,Nat.add_mul]];exact List.take_left
  ·rw[hdl] at hil
   by_cases hix:i<xs.length-p
   ·have e3:(xs.drop p++ys).getD i t.dflt=xs.getD (p+i) t.dflt:=by
     simp only[List.getD];rw[List.getElem?_append_left (by simp;omega),List.getElem?_drop]
    have hm:(i+1)*t.size≤(xs.length-p)*t.size:=Nat.mul_le_mul_right _ hix;rw[Nat.add_mul,Nat.one_mul] at hm;have e4:((olds++news).drop (i*t.size)).take t.size=((cur.toList.take (xs.length*t.size)).drop ((p+i)*t.size)).take t.size:=by
     rw[List.drop_append_of_le_length ω,List.take_append_of_le_length (by simp;omega)];show(((cur.toList.take (xs.length*t.size)).drop (p*t.size)).drop (i*t.size)).take t.size=_;rw[List.drop_drop,← Nat.add_mul]
    rw[e3,e4];exact hkeep (h15 (p+i) ω)
   ·have e3:(xs.drop p++ys).getD i t.dflt=ys.getD (i-(xs.length-p)) t.dflt:=by
     simp only[List.getD];rw[List.getElem?_append_right (by simp;omega),List.length_drop]
    have e4:(olds++news).drop (i*t.size)=news.drop ((i-(xs.length-p))*t.size):=by
     have:i*t.size=(xs.length-p)*t.size+(i-(xs.length-p))*t.size:=by rw[← Nat.add_mul];congr 1;omega
     rw[List.drop_append,List.drop_eq_nil_of_le ω,aC,hol];congr 1;omega
    rw[e3,e4];exact hkeep (n4 (i-(xs.length-p)) ω)
 ·exact⟨rfl,.row t e (ver+1) (xs.drop p++ys),by simp[hlt],Υ _,λ_ _=>⟨⟨_,_,_,rfl⟩,(aR _ _ _).symm⟩⟩
end
section
variable {C:Ctx} {Q:Exit→St→Prop} {s:St} {c:Code}
theorem yw (t' k:Nat){t:Ty}{e:TypeId}{v:Nat}{xs:List t.den}(ht:lkp s.env t'= .one (.row k v))(hk:s.L[k]? =some (.row t e v xs))
 (h:AWP C c Q {env:=(t',.one (.row k (v+1)))::s.env,L:=s.L.set k (.row t e (v+1) xs)}):AWP C c Q s:=by
 intro σ a w hr;have hlt:k<s.L.length:=(Δ.1 hk).1;obtain⟨i1,i2⟩:=d8 (C:=C) (L':=s.L.set k (.row t e (v+1) xs)) (σ':=σ) (w':=w) k hr.inv (Υ _) rfl rfl rfl (λ_ _ _=>rfl) (λj hj=>by rw[List.getElem?_set_ne (Ne.symm hj)]) (λ_ _=>rfl)
  (λob e'=>by rw[hk] at e';cases e';exact⟨.row t e (v+1) xs,by simp[hlt],Nat.le_succ _,λ_ h=>by simp[AO.ver] at h⟩)
  (λb ⟨ob,e1,e2,e3⟩=>by simp[hlt] at e1;subst e1;exact .inl ⟨_,hk,rfl,e3⟩)
  (λhp hav ob e'=>by
    simp[hlt] at e';subst e';obtain⟨flat,h1,h2,h3⟩:=hr.inv.ob k _ hk;exact⟨flat,h1,h2,λi hi=>(h3 i hi).keep (Υ _) (λ_ _ _=>rfl) hav⟩)
 refine h σ a w ⟨i1,λt''=>?_,hr.size,hr.defers,hr.pres.trans i2⟩;simp only[lkp]
 by_cases e':t''=t'
 ·rw[if_pos e',e']
  have h1:=hr.env t';rw[ht] at h1;obtain⟨q1,ob,q2,q3,q4⟩:=h1;rw[hk] at q2;cases q2;exact⟨q1,.row t e (v+1) xs,by simp[hlt],Υ _,λ_ _=>⟨⟨_,_,_,rfl⟩,(q4 rfl rfl).2⟩⟩
 ·rw[if_neg e'];exact i2.rv (hr.env t'')
theorem Dq (t' k:Nat){t:Ty}{e:TypeId}{v:Nat}{xs:List t.den}(ht:lkp s.env t'= .one (.row k v))(hk:s.L[k]? =some (.row t e v xs))(h0:0<xs.length)
 (h:∀ cp:Nat,xs.length≤cp→AWP C c Q {env:=(t',.one (.suf k v 0 (some cp)))::s.env,L:=s.L}):AWP C c Q s:=by
 intro σ a w hr;have h1:=hr.env t';rw[ht] at h1;obtain⟨q1,ob,q2,q3,q4⟩:=h1;rw[hk] at q2;cases q2;obtain⟨_,q5⟩:=q4 rfl rfl;obtain⟨flat,g1,g2,g3⟩:=hr.inv.ob k _ hk;rcases g1.2 with⟨_,e2⟩|⟨g,cap,cur,e1,_,e3,e4,e5,e6,e7⟩
 ·omega
 ·refine h cap e4 σ a w ⟨hr.inv,λt''=>?_,hr.size,hr.defers,hr.pres⟩
  simp only[lkp]
  by_cases e':t''=t'
  ·rw[if_pos e',e']
   refine⟨q1,.row t e v xs,hk,Υ _,λ_ _=>⟨⟨_,_,_,rfl⟩,g,xs.length,cap,0,(λx h=>by cases h;rfl),e1,Nat.zero_le _,?_,λ_=>by simp⟩⟩;rw[q5,e1];rfl
  ·rw[if_neg e'];exact hr.env t''
end
section
open Go.RowKit
variable {C:Ctx} {L0:List AO} {o:Oper} {opn:Operand→AV}
theorem x6 {z:Array Value}(hz:0<z.size)(n:Nat):(Builtin.zeroCells z n).toList=(List.replicate n z.toList).flatten:=by
 rw[← cX z.toList (by simpa using hz) n];simp[Builtin.zeroCells]
theorem uE {T e:TypeId}{td te:TD}{x:Operand}{ats:Array TypeId}{k ver p:Nat}{cp:Option Nat}{t:Ty}{xs:List t.den}{dz:t.den}(ho:o.op= .call {callee:=.builtin .clear,args:=#[x],argTypes:=ats})(ha:ats= #[T])
 (ht:aN C.P T=some td) (hk:td.k= .slice e) (hte:aN C.P e=some te) (hz:te.zero.length=t.size) (hdz:bq t te.zero=some dz)
 (hx':opn x= .one (.suf k ver p cp)) (hob:L0[k]? =some (.row t e ver xs)) (hp:p<xs.length):
 bG C L0 o opn {av:=.tup [],upd:=[(k,.row t e ver (xs.take p++List.replicate (xs.length-p) dz))],fp:=[k]}:=by
 intro L σ w ρ hi hx hfp _;have hx1:=hx x (by simp[ho,Op.operands,Call.operands]);rw[hx'] at hx1;have hob':L[k]? =some (.row t e ver xs):=by rw[hfp k η];exact hob
 have hlt:k<L.length:=(Δ.1 hob').1;obtain⟨b,c8,q,cur,h5,h6,h7,h8,h9,h10,h11,h12,h13,h14,h15⟩:=oQ hi hob' hx1;have hq:=h9 ω;subst hq;obtain⟨d,i,z,t1,t2,t3,t4,t5,t6,t7⟩:=cU ht;rw[hk] at t7;have:=bW t7;subst this;obtain⟨z,hz1,hz2⟩:=eT hte w;have hzr:bv (RC C L σ w) te.zero z.cells.toList:=cz hz2;have hzl:z.cells.toList.length=t.size:=by rw[← hzr.length,hz]
 have hcl:cur.toList.length=c8*t.size:=by rw[Array.length_toList];exact h13
 have hm0:xs.length*t.size≤c8*t.size:=Nat.mul_le_mul_right _ h11;have hm1:p*t.size+(xs.length-p)*t.size=xs.length*t.size:=by rw[← Nat.add_mul];congr 1;omega
 let zs:List Value:=(List.replicate (xs.length-p) z.cells.toList).flatten
 have hzsl:zs.length=(xs.length-p)*t.size:=by show((List.replicate (xs.length-p) z.cells.toList).flatten).length=_;rw[fS,hzl]
 have hone:∀ u∈zs,u.oneCell'=true:=by
  intro u hu;obtain⟨l,hl,hul⟩:=List.mem_flatten.1 hu;rw[List.eq_of_mem_replicate hl] at hul;exact bv.oneCell hzr u hul
 have hst:=run_storeCells_at C.P b (p*t.size) e zs 0 cur w h10 (by rw[hzsl,h13];omega) hone;simp only[Nat.add_zero] at hst
 generalize hw':w.setRow b _=w' at hst
 have hheap:w'.heap[b]? =some (.cells (cur.toList.take (p*t.size)++zs++cur.toList.drop (p*t.size+zs.length)).toArray e (0,0)):=by rw[← hw'];exact setRow_heap w b cur _ e _ h10
 have hoth:∀ j,j≠b→w'.heap[j]? =w.heap[j]?:=λj hj=>by rw[← hw'];exact setRow_other w b j _ hj
 have hsize:w'.heap.size=w.heap.size:=by rw[← hw'];simp[World.setRow]
 have hos:w'.os=w.os∧w'.tape=w.tape∧w'.output=w.output:=by rw[← hw'];exact⟨rfl,rfl,rfl⟩
 have hown:own L σ k b:=⟨_,hob',rfl,by rw[h6];rfl⟩
 have hrun:(Builtin.clear_ ats o.type #[ρ x]).run C.P w= .ok (.tuple #[]) w':=by
  obtain⟨m,hm⟩:∃ m,xs.length-p=m+1:=⟨xs.length-p-1,ω⟩
  have hzz:(Builtin.zeroCells z.cells (m+1)).toList=zs:=by rw[x6 (by rw[← Array.length_toList,hzl];exact h14),← hm]
  rw[h8,hm,ha];simp[Builtin.clear_,run_underlying t1,hz1,hzz,hst]
 have hfl1:(cur.toList.take (p*t.size)).length=p*t.size:=by rw[List.length_take,hcl];omega
 have hll:(xs.take p++List.replicate (xs.length-p) dz).length=xs.length:=by simp;omega
 simp only[ho,execOp,resolve,invoke,builtin,Φ,Ω,Ψ,List.map_toArray,aJ,aV,hrun,bI];refine cI (σ':=σ) hi hob' ω hos.1 hos.2.1 hos.2.2
  (λj hj hno=>hoth j (λej=>hno (ej▸hown))) (λj hj=>rfl) ⟨Υ _,λ_ _=>⟨rfl,rfl,rfl,_,rfl⟩⟩
  (λ_ j hj=>.inl ⟨_,hob',rfl,hj⟩) (λhp' hav=>?_) (λhI _=>⟨[],rfl,trivial⟩)
 have hkeep:∀ {t':Ty} {d:t'.den} {cs:List Value},Dat (avd C L σ) w t' d cs→Dat (avd C (L.set k (.row t e ver (xs.take p++List.replicate (xs.length-p) dz))) σ) w' t' d cs:=λhd=>
  hd.keep ω (λb9 hb ha=>hoth b9 (λej=>ha (.inr ⟨k,ej▸hown⟩))) hav
 refine⟨cur.toList.take (p*t.size)++zs,?_,h14,λi hil=>?_⟩
 ·refine⟨by rw[aq,hfl1,hzsl,hll];omega,.inr ⟨b,c8,_,by rw[hll];exact h6,Nat.zero_le _,hheap,by rw[hll];exact h11,h12,by rw[List.size_toArray,aq,aq,hfl1,List.length_drop,hcl];omega,?_⟩⟩
  rw[hll,List.toList_toArray,List.take_append_of_le_length (by rw[aq];omega),List.take_of_length_le (by rw[aq];omega)]
 ·rw[hll] at hil
  by_cases hix:i<p
  ·have e3:(xs.take p++List.replicate (xs.length-p) dz).getD i t.dflt=xs.getD i t.dflt:=by
    simp only[List.getD];rw[List.getElem?_append_left (by rw[List.length_take];omega),List.getElem?_take_of_lt hix]
   have hm:(i+1)*t.size≤p*t.size:=Nat.mul_le_mul_right _ hix;rw[Nat.add_mul,Nat.one_mul] at hm;have e4:((cur.toList.take (p*t.size)++zs).drop (i*t.size)).take t.size=((cur.toList.take (xs.length*t.size)).drop (i*t.size)).take t.size:=by
    rw[List.drop_append_of_le_length ω,List.take_append_of_le_length (by rw[List.length_drop];omega)];exact(yi hm ω).symm
   rw[e3,e4];exact hkeep (h15 i hil)
  ·have e3:(xs.take p++List.replicate (xs.length-p) dz).getD i t.dflt=dz:=by
    simp only[List.getD];rw[List.getElem?_append_right (by rw[List.length_take];omega),List.length_take,List.getElem?_replicate,if_pos ω]
    rfl
   have e4:((cur.toList.take (p*t.size)++zs).drop (i*t.size)).take t.size=z.cells.toList:=by
    have:i*t.size=p*t.size+(i-p)*t.size:=by rw[← Nat.add_mul];congr 1;omega
    have e5:(cur.toList.take (p*t.size)++zs).drop (i*t.size)=zs.drop ((i-p)*t.size):=by
     rw[List.drop_append,List.drop_eq_nil_of_le ω,aC,hfl1];congr 1;omega
    rw[e5,← hzl];exact jX z.cells.toList (xs.length-p) (i-p) ω
   rw[e3,e4];exact hkeep (iQ hdz hzr)
end
theorem Mw (a b:List Int):decide (cJ a b=0)=decide (a=b):=by
 rw[decide_eq_decide];exact⟨mR,λh=>by rw[h];exact mf b⟩
theorem O2 (a b:List Int):decide (dj a b=0)=decide (a=b):=by
 rw[decide_eq_decide,ew];exact⟨lO,λh=>by rw[h];exact m5 b⟩
theorem yV {l:List (List Int)}{i:Nat}(h:i<l.length):l.set i (l.getD i [])=l:=jc (by simp[List.getD,h])
theorem wR {P:Program}{L0:List AO}{f:FuncId}{args:List AV}{r:AV}{fp:List Nat}{k:Nat}{ob:AO}(h:cS P L0 f args {av:=r,fp:=fp})(hk:L0[k]? =some ob)(hm:k∈fp):cS P L0 f args {av:=r,upd:=[(k,ob)],fp:=fp}:=by
 refine⟨h.1,λC L σ w vs hP hi ha hfp hlen=>(h.2 C L σ w vs hP hi ha hfp hlen).mono λe w' hh=>?_⟩;obtain⟨v,he,σ',g1,g2,g3⟩:=hh;have hkL:L[k]? =some ob:=by rw[hfp k hm];exact hk
 have e1:app L {av:=r,upd:=[(k,ob)],fp:=fp}=app L {av:=r,fp:=fp}:=by
  simp only[app,cD,List.append_nil];exact jc hkL
 exact⟨v,he,σ',by rw[e1];exact g1,by rw[e1];exact g2,by rw[e1];exact g3⟩
section
open Go.RowKit
variable {C:Ctx} {L0:List AO} {o:Oper} {opn:Operand→AV}
theorem dy {T e:TypeId}{td te:TD}{t:Ty}{n:Nat}{aU:Array (Nat×Operand)}{cs:List AC}{k v9:Nat}(hob:L0[k]? =some (.dead v9))(ho:o.op= .buildSlice T n aU)(ht:aN C.P T=some td)(hk:td.k= .slice e)(hte:aN C.P e=some te)
 (hsz:te.size=t.size) (hz:te.zero.length=te.size) (h0:0<te.size) (hsm:n*te.size≤16777216) (hf:cu (λi=>some (i*te.size,te.size)) opn (rep te.zero n) aU.toList=some cs):
 bG C L0 o opn {av:=.one (.rwc k (v9+1)),upd:=[(k,.rowc e te.size (v9+1) cs)],fp:=[k]}:=by
 intro L σ w ρ hi hx hfp hlen;obtain⟨d,hd,hkd,hu⟩:=bS ht w;rw[hk] at hkd;have:=bW hkd;subst this;obtain⟨z,hz1,hz2⟩:=eT hte w;have hrz:=cz (C:=C) (L:=L) (σ:=σ) (w:=w) hz2;have hzl:z.cells.toList.length=te.size:=by rw[← hrz.length,hz]
 obtain⟨us,hu1,hu2⟩:=eS (C:=C) (opn:=opn) (L:=L) (σ:=σ) (w:=w) (ρ:=ρ) (place:=λi=>some (i*te.size,te.size)) hf
  (λp hp=>hx p.2 (by simp only[ho,Op.operands,List.mem_toArray];exact List.mem_map.2 ⟨p,by simpa using hp,rfl⟩)) (jN hrz n)
 have hul:=hu2.length;have hml:n≤n*te.size:=Nat.le_mul_of_pos_right n h0;have hrun:(Instr.buildSlice T n (aU.map fun(i,x)=>(i,ρ x))).run C.P w= .ok (.slice (some ⟨w.heap.size,0,none⟩) n n) (w.alloc (.cells us e)):=by
  have h1:¬(n*te.size>16777216):=ω;have hcells:((Array.range (n*te.size)).map λj=>z.cells[j % z.cells.size]!)=((List.replicate n z.cells.toList).flatten).toArray:=by
   apply Array.ext';have h2:=cX z.cells.toList ω n;have h3:z.cells.size=te.size:=by rw[← Array.length_toList,hzl]
   simp only[Array.toList_map,Array.toList_range];rw[← h2,hzl,h3]
  have hp:(aU.map fun(x:Nat×Operand)=>(x.1,ρ x.2)).toList=aU.toList.map λp=>(p.1,ρ p.2):=η
  by_cases hn:n*te.size=0
  ·have hn0:n=0:=by
    rcases Nat.mul_eq_zero.1 hn with h|h
    ·exact h
    ·omega
   subst hn0;simp only[List.replicate_zero,List.flatten_nil] at hu1;rw[← hp] at hu1;simp only[Instr.buildSlice,Φ,hd,Ψ,bT hte w,Nat.reducePow,Sem.run_ite,if_neg h1,if_pos hn,Ω];simp only[Nat.zero_mul,Array.range_zero',Array.map_empty];rw[hu1];simp[newRow]
  ·simp only[Instr.buildSlice,Φ,hd,Ψ,bT hte w,Nat.reducePow,Sem.run_ite,if_neg h1,if_neg hn,hz1,Ω]
   rw[hcells,hp,hu1];simp[newRow]
 simp only[ho,execOp,Φ,hrun,Ψ,Ω,bI];have hcl:cs.length=n*t.size:=by
  rw[hul,← hsz];have:∀ (aU:List (Nat×Operand)) (as9 cs:List AC),cu (λi=>some (i*te.size,te.size)) opn as9 aU=some cs→cs.length=as9.length:=by
   intro aU
   induction aU with
   |nil=>intro as9 cs h;simp only[cu,Λ] at h;subst h;rfl
   |cons p aU ih=>
    intro as9 cs h;simp only[cu] at h;split at h
    ·rename_i off size vs h1 h2
     split at h
     ·rename_i hcc
      rw[ih _ _ h];unfold cg;simp;omega
     ·cases h
    ·cases h
  rw[← hul,this _ _ _ hf,fM,hz]
 have hus:us.toList.length=n*t.size:=by rw[← hul,hcl]
 have hzt:te.size=t.size:=hsz;have hob':L[k]? =some (.dead v9):=by rw[hfp k η];exact hob
 have hlt:k<L.length:=(Δ.1 hob').1;refine cI (σ':=sup σ k (.slice (some ⟨w.heap.size,0,none⟩) n n)) hi hob' η rfl rfl rfl (λb hb _=>heap_alloc_old w _ hb) (λj hj=>d6 σ _ hj) ⟨Nat.le_succ _,λ_ h=>by simp[AO.ver] at h⟩
  (λ_ b hb=>by rw[aR] at hb;simp only[blk,Λ] at hb;exact .inr ω) (λhp hav=>?_) (λ_ _=>?_)
 ·refine⟨us.toList,n,?_,h0,by rw[hcl,hsz],hu2.mono λc u hcu=>hp c u hcu⟩
  rw[aR];exact⟨by rw[hus,hsz],.inr ⟨w.heap.size,n,us,rfl,Nat.zero_le _,heap_alloc_new w _,Υ _,by simp only[maxLen];omega,by rw[← Array.length_toList,hus,hsz],by rw[List.take_of_length_le (by rw[hsz];omega)]⟩⟩
 ·exact⟨rfl,.rowc e te.size (v9+1) cs,by simp[hlt],Υ _,λ_ _=>⟨⟨_,_,_,rfl⟩,(aR _ _ _).symm⟩⟩
theorem mW {T e:TypeId}{td te:TD}{t:Ty}{x y:Operand}{k k':IntKind}{n c:Int}{z0:t.den}{q:Nat}(hob:L0[q]? =some (.dead 0))(ho:o.op= .makeSlice T x y)(ht:aN C.P T=some td)(hk:td.k= .slice e)(hte:aN C.P e=some te)
 (hsz:te.size=t.size) (hz:te.zero.length=te.size) (h0:0<te.size) (hx':opn x= .one (.int k n)) (hy':opn y= .one (.int k' c)) (hn:0≤n) (hnc:n≤c) (hb:(te.bytes:Int)*c≤281474976710656) (hc:c≤9223372036854775807)
 (hd0:bq t te.zero=some z0):bG C L0 o opn {av:=.one (.row q 1),upd:=[(q,.row t e 1 (List.replicate n.toNat z0))],fp:=[q]}:=by
 intro L σ w ρ hi hx hfp hlen;have hx1:=hx x (by simp[ho,Op.operands]);have hx2:=hx y (by simp[ho,Op.operands]);rw[hx'] at hx1;rw[hy'] at hx2;have e1:ρ x= .int k n:=hx1.2;have e2:ρ y= .int k' c:=hx2.2;obtain⟨d,i,z,h1,h2,h3,h4,h5,h6,h7⟩:=cU ht;rw[hk] at h7;have:=bW h7;subst this;obtain⟨d',ie,ze,g1,g2,g3,g4,g5,g6,g7⟩:=cU hte;have hrz:=cz (C:=C) (L:=L) (σ:=σ) (w:=w) g4;have hzl:ze.cells.toList.length=te.size:=by rw[← hrz.length,hz]
 have hzs:ze.cells.size=te.size:=by rw[← Array.length_toList,hzl]
 have hrun:=run_make (P:=C.P) w T e ie ze h1 g2 g3 k k' n c hn hnc (by rw[g6];exact hb) hc;have hmade:(madeCells ze.cells (c.toNat*ie.size)).toList=(List.replicate c.toNat ze.cells.toList).flatten:=by
  have:=cX ze.cells.toList ω c.toNat;rw[g5,madeCells,Array.toList_map,Array.toList_range,← this,hzl,hzs]
 simp only[ho,execOp,e1,e2,Φ,hrun,Ψ,Ω,bI];have hob':L[q]? =some (.dead 0):=by rw[hfp q η];exact hob
 have hlt:q<L.length:=(Δ.1 hob').1;refine cI (σ':=sup σ q (.slice (some ⟨w.heap.size,0,none⟩) n.toNat c.toNat)) hi hob' η rfl rfl rfl (λb hb _=>heap_alloc_old w _ hb) (λj hj=>d6 σ _ hj) ⟨Nat.zero_le _,λ_ h=>by simp[AO.ver] at h⟩
  (λ_ b hb=>by rw[aR] at hb;simp only[blk,Λ] at hb;exact .inr ω) (λhp hav=>?_) (λ_ _=>?_)
 ·refine⟨(List.replicate n.toNat ze.cells.toList).flatten,?_,ω,λi hil=>?_⟩
  ·rw[aR]
   refine⟨by rw[fS,hzl,hsz];simp,.inr ⟨w.heap.size,c.toNat,_,η,Nat.zero_le _,heap_alloc_new w _,by simp;omega,by simp only[maxLen];omega,?_,?_⟩⟩
   ·rw[size_madeCells,g5,hsz]
   ·rw[hmade,← hsz,← hzl]
    simp only[aB];exact mF _ _ _ ω
  ·have hil':i<n.toNat:=by simpa using hil
   rw[← hsz,← hzl,jX _ _ _ hil'];have:(List.replicate n.toNat z0).getD i t.dflt=z0:=by simp[List.getD,hil']
   rw[this];exact iQ hd0 (cz g4)
 ·exact⟨rfl,.row t e 1 (List.replicate n.toNat z0),by simp[hlt],Υ _,λ_ _=>⟨⟨_,_,_,rfl⟩,(aR _ _ _).symm⟩⟩
theorem fh {P:Program}{L0:List AO}{f:FuncId}{args:List AV}{t:Ty}{e:TypeId}{xs:List t.den}{k:Nat}(hk:L0[k]? =some (.dead 0))(h:gQ P f args t e xs):cS P L0 f args {av:=.one (.row k 1),upd:=[(k,.row t e 1 xs)],fp:=[k]}:=by
 refine⟨h.1,λC L σ w vs hP hi ha hfp hlen=>(h.2 C L σ w vs hP hi ha).mono λen w' hh=>?_⟩;obtain⟨v,flat,e1,hm,ho,h0,hd⟩:=hh;have hblk:blk v=v.ownBlock:=gE (dX ho);have hob':L[k]? =some (.dead 0):=by rw[hfp k η];exact hk
 have hlt:k<L.length:=(Δ.1 hob').1;refine⟨v,e1,?_⟩;have hbase:∀ b,blk v=some b→w.heap.size≤b:=λb hb=>(ho.lt b (by rw[← hblk];exact hb)).1;refine cI (σ':=sup σ k v) hi hob' hm.size hm.os hm.tape hm.output (λb hb _=>hm.block b hb) (λj hj=>d6 σ _ hj) ⟨Nat.zero_le _,λ_ h=>by simp[AO.ver] at h⟩
  (λ_ b hb=>by rw[aR] at hb;exact .inr (hbase b hb)) (λ_ _=>?_) (λ_ _=>?_)
 ·refine⟨flat,?_,h0,λi hi'=>(hd i hi').keep (Υ _) (λ_ _ _=>rfl) ?_⟩
  ·rw[aR]
   refine⟨ho.1,?_⟩;rcases ho.2 with h|⟨g,cap,cur,e1,_,r⟩
   ·exact .inl h
   ·exact .inr ⟨g,cap,cur,e1,Nat.zero_le _,r⟩
  ·rintro b _ (hx|⟨j,ob,q1,q2,q3⟩)
   ·exact .inl (.inl hx)
   ·by_cases ej:j=k
    ·subst ej;rw[aR] at q3;exact .inr q3
    ·rw[d6 σ v ej] at q3
     rw[List.getElem?_set_ne (Ne.symm ej)] at q1;exact .inl (.inr ⟨j,ob,q1,q2,q3⟩)
 ·refine⟨?_,.row t e 1 xs,by simp[hlt],Υ _,λ_ _=>⟨⟨_,_,_,rfl⟩,by rw[aR]⟩⟩
  rcases ho.2 with⟨rfl,_⟩|⟨g,cap,cur,rfl,_⟩<;>rfl
theorem lr {T e:TypeId}{td te:TD}{x ix:Operand}{r ver j off n:Nat}{t:Ty}{e9:TypeId}{xs:List t.den}{k:IntKind}{i:Int}(ho:o.op= .indexAddr T x ix)(ht:aN C.P T=some td)(hk:td.k= .array n e)(hte:aN C.P e=some te)
 (hx':opn x= .one (.ptr r ver j off)) (hob:L0[r]? =some (.row t e9 ver xs)) (hi':opn ix= .one (.int k i)) (h0:0≤i) (h1:i<n) (hne:te.size≠0):bG C L0 o opn {av:=.one (.ptr r ver j (off+i.toNat*te.size)),fp:=[r]}:=by
 intro L σ w ρ hi hx hfp hlen;have hx1:=hx x (by simp[ho,Op.operands]);have hx2:=hx ix (by simp[ho,Op.operands]);rw[hx'] at hx1;rw[hi'] at hx2;have e2:ρ ix= .int k i:=hx2.2;have hob':L[r]? =some (.row t e9 ver xs):=by rw[hfp r η];exact hob
 obtain⟨ob,h2,h3,h4⟩:=hx1.2;rw[hob'] at h2;cases h2;obtain⟨b,hb,e1⟩:=h4 rfl rfl;obtain⟨d,hd,hkd,hu⟩:=bS ht w;rw[hk] at hkd;have:=lK hkd;subst this;have hrun:(Instr.indexAt T (.pointer (some ⟨b,j*AO.esize (.row t e9 ver xs)+off,none⟩)) (.int k i)).run C.P w= .ok (.pointer (some ⟨b,j*AO.esize (.row t e9 ver xs)+(off+i.toNat*te.size),none⟩)) w:=by
  simp[Instr.indexAt,asIntOf,hd,h0,h1,bT hte,add_lit,Instr.sureAddr,hne,Nat.add_assoc]
 simp only[ho,execOp,e1,e2,Φ,hrun,Ψ,Ω,bI];exact aZ hi ⟨rfl,.row t e9 ver xs,hob',Υ _,λ_ _=>⟨b,hb,rfl⟩⟩
end
def frR (E:TypeId)(V:Nat):List (List Int)→List (List Int)→List AO
 |n::ns,o::os=>.row (.int .i64) E V n:: .row (.int .i64) E V o::frR E V ns os
 |_,_=>[]
def frX (E:TypeId)(V:Nat)(nx ot:List (List Int))(X:List AO):List AO:=frR E V nx ot++X
def frN (V n:Nat):List AC:=(List.range n).map λi=>.row (2*i+1+1+1+1+1+1) V
def frQ (V n:Nat):List AC:=(List.range n).map λi=>.row (2*i+1+1+1+1+1+1+1) V
section
variable {E:TypeId} {V:Nat}
theorem hZ:∀ {nx ot:List (List Int)},ot.length=nx.length→(frR E V nx ot).length=2*nx.length
 |[],[],_=>rfl
 |n::ns,o::os,h=>by
  have:=hZ (nx:=ns) (ot:=os) (by simpa using h);simp only[frR,ax,this];omega
 |[],_::_,h=>by simp at h
 |_::_,[],h=>by simp at h
theorem EH:∀ {nx ot:List (List Int)} {s:Nat},ot.length=nx.length→s<nx.length→(frR E V nx ot)[2*s]? =some (.row Θ E V (nx.getD s []))∧(frR E V nx ot)[2*s+1]? =some (.row Θ E V (ot.getD s []))
 |n::ns,o::os,0,_,_=>⟨rfl,rfl⟩
 |n::ns,o::os,s+1,h,hs=>by
  have:=EH (nx:=ns) (ot:=os) (s:=s) (by simpa using h) (by simpa using hs);rw[show 2*(s+1)=2*s+1+1 by omega];simp only[frR,List.getElem?_cons_succ,List.getD_cons_succ];exact this
 |[],_,_,_,hs=>by simp at hs
 |_::_,[],_,h,_=>by simp at h
theorem Fe:∀ {nx ot:List (List Int)} {s:Nat} {y:List Int},ot.length=nx.length→s<nx.length→(frR E V nx ot).set (2*s) (.row Θ E V y)=frR E V (nx.set s y) ot∧(frR E V nx ot).set (2*s+1) (.row Θ E V y)=frR E V nx (ot.set s y)
 |n::ns,o::os,0,_,_,_=>⟨rfl,rfl⟩
 |n::ns,o::os,s+1,y,h,hs=>by
  have:=Fe (nx:=ns) (ot:=os) (s:=s) (y:=y) (by simpa using h) (by simpa using hs);rw[show 2*(s+1)=2*s+1+1 by omega];simp only[frR,bV];exact⟨by rw[this.1],by rw[this.2]⟩
 |[],_,_,_,_,hs=>by simp at hs
 |_::_,[],_,_,h,_=>by simp at h
theorem qa {nx ot:List (List Int)}{X:List AO}{s:Nat}(h:ot.length=nx.length)(hs:s<nx.length):(frX E V nx ot X)[2*s]? =some (.row Θ E V (nx.getD s [])):=by
 unfold frX;rw[List.getElem?_append_left (by rw[hZ h];omega)];exact(EH h hs).1
theorem w8 {nx ot:List (List Int)}{X:List AO}{s:Nat}(h:ot.length=nx.length)(hs:s<nx.length):(frX E V nx ot X)[2*s+1]? =some (.row Θ E V (ot.getD s [])):=by
 unfold frX;rw[List.getElem?_append_left (by rw[hZ h];omega)];exact(EH h hs).2
theorem AY {nx ot:List (List Int)}{X:List AO}{s:Nat}{y:List Int}(h:ot.length=nx.length)(hs:s<nx.length):(frX E V nx ot X).set (2*s) (.row Θ E V y)=frX E V (nx.set s y) ot X:=by
 unfold frX;rw[List.set_append,if_pos (by rw[hZ h];omega),(Fe h hs).1]
theorem Ib {nx ot:List (List Int)}{X:List AO}{s:Nat}{y:List Int}(h:ot.length=nx.length)(hs:s<nx.length):(frX E V nx ot X).set (2*s+1) (.row Θ E V y)=frX E V nx (ot.set s y) X:=by
 unfold frX;rw[List.set_append,if_pos (by rw[hZ h];omega),(Fe h hs).2]
theorem fR {nx ot:List (List Int)}{X:List AO}{n:Nat}(h:ot.length=nx.length)(hn:nx.length=n)(j:Nat):(frX E V nx ot X)[2*n+j]? =X[j]?:=by
 subst hn;unfold frX;rw[List.getElem?_append_right (by rw[hZ h];omega),hZ h,Nat.add_sub_cancel_left]
theorem iI {nx ot:List (List Int)}{X:List AO}{n:Nat}(h:ot.length=nx.length)(hn:nx.length=n)(j:Nat)(x:AO):(frX E V nx ot X).set (2*n+j) x=frX E V nx ot (X.set j x):=by
 subst hn;unfold frX;rw[List.set_append,if_neg (by rw[hZ h];omega),hZ h,Nat.add_sub_cancel_left]
theorem iN {nx ot:List (List Int)}(X Y:List AO):frX E V nx ot X++Y=frX E V nx ot (X++Y):=List.append_assoc ..
theorem vr:∀ {nx ot:List (List Int)} {n o:List Int} {X:List AO},ot.length=nx.length→frX E V nx ot (.row Θ E V n:: .row Θ E V o::X)=frX E V (nx++[n]) (ot++[o]) X
 |[],[],_,_,_,_=>rfl
 |a::nx,b::ot,n,o,X,h=>by
  have:=vr (nx:=nx) (ot:=ot) (n:=n) (o:=o) (X:=X) (by simpa using h);simp only[frX,frR,aG] at this⊢;rw[this]
 |[],_::_,_,_,_,h=>by simp at h
 |_::_,[],_,_,_,h=>by simp at h
theorem ny {nx ot:List (List Int)}{X:List AO}(h:ot.length=nx.length):(frX E V nx ot X).length=2*nx.length+X.length:=by unfold frX;rw[aq,hZ h]
theorem lD (V n:Nat):(frN V n).length=n:=by simp[frN]
theorem qB (V n:Nat):(frQ V n).length=n:=by simp[frQ]
theorem nX {n i:Nat}(h:i<n):(frN V n).getD i .junk= .row (2*i+1+1+1+1+1+1) V:=by simp[frN,List.getD,h]
theorem vx {n i:Nat}(h:i<n):(frQ V n).getD i .junk= .row (2*i+1+1+1+1+1+1+1) V:=by simp[frQ,List.getD,h]
theorem zW (V n:Nat):frN V (n+1)=frN V n++[.row (2*n+1+1+1+1+1+1) V]:=by unfold frN;rw[List.range_succ,List.map_append];rfl
theorem yz (V n:Nat):frQ V (n+1)=frQ V n++[.row (2*n+1+1+1+1+1+1+1) V]:=by unfold frQ;rw[List.range_succ,List.map_append];rfl
theorem yJ {n N:Nat}(h:2*n+6≤N+1):(frN V n).all (bY N)=true:=by
 unfold frN;rw[List.all_map,List.all_eq_true];intro s hs;have:=List.mem_range.1 hs;simp only[Function.comp,bY,decide_eq_true_eq];omega
theorem zo {n N:Nat}(h:2*n+6≤N):(frQ V n).all (bY N)=true:=by
 unfold frQ;rw[List.all_map,List.all_eq_true];intro s hs;have:=List.mem_range.1 hs;simp only[Function.comp,bY,decide_eq_true_eq];omega
theorem zI {N:Nat}:∀ {nx ot:List (List Int)},(frR E V nx ot).all (cr N)=true
 |n::ns,o::os=>by simp only[frR,List.all_cons,zI,Bool.and_true,cr]
 |[],_=>rfl
 |_::_,[]=>rfl
theorem yt {N:Nat}{nx ot:List (List Int)}{X:List AO}(h:X.all (cr N)=true):(frX E V nx ot X).all (cr N)=true:=by unfold frX;rw[List.all_append,zI,h];rfl
end
def cd3 (a b c k:Nat):Nat:=if k<6 then k else if k=6 then a else if k=7 then b else if k=8 then c else a+b+c+k
theorem nS {a b c:Nat}(ha:6≤a)(hb:6≤b)(hc:6≤c)(hab:a≠b)(hac:a≠c)(hbc:b≠c):∀ x y,cd3 a b c x=cd3 a b c y→x=y:=by
 intro x y;unfold cd3
 repeat' split
 all_goals(intro h;omega)
theorem y9 {A0 A1:AO}{T e E:TypeId}{c0 c1:AC}{v1 v2 k1 k2 sz V n d N:Nat}{nx ot:List (List Int)}{X:List AO}(h0:cr N A0=true)(h1:cr N A1=true)(g0:bY N c0=true)(g1:bY N c1=true)(hN:2*n+6≤N)(hX:X.all (cr N)=true):
 (A0::A1:: .vars T [c0,c1,.rwc 3 k1,.rwc 4 k2]:: .rowc e sz v1 (frN V n):: .rowc e sz v2 (frQ V n):: .dead d::frX E V nx ot X).all (cr N)=true:=by
 have e2:cr N (.vars T [c0,c1,.rwc 3 k1,.rwc 4 k2])=true:=by
  show(bY N c0&&(bY N c1&&(decide (3<N)&&(decide (4<N)&&true))))=true;rw[g0,g1,decide_eq_true (show 3<N by omega),decide_eq_true (show 4<N by omega)];rfl
 have e3:cr N (.rowc e sz v1 (frN V n))=true:=yJ (V:=V) (show 2*n+6≤N+1 by omega);have e4:cr N (.rowc e sz v2 (frQ V n))=true:=zo (V:=V) hN;have e5:cr N (.dead d)=true:=rfl;rw[List.all_cons,List.all_cons,List.all_cons,List.all_cons,List.all_cons,List.all_cons,h0,h1,e2,e3,e4,e5,yt hX];rfl
theorem Bz {A0 A1 A2 A3 A4 A5:AO}{E:TypeId}{V:Nat}{nx ot:List (List Int)}{X:List AO}(h:ot.length=nx.length):(A0::A1::A2::A3::A4::A5::frX E V nx ot X).length=2*nx.length+X.length+6:=by
 simp only[ax,ny h]
theorem tu {l:List (List Int)}{k:Nat}(h:k<l.length):l.take (k+1)=l.take k++[l.getD k []]:=by
 rw[List.take_succ_eq_append_getElem h];simp[List.getD,h]
theorem Oo {A0 A1:AO}{e E:TypeId}{v1 v2 sz V n d d2 N:Nat}{nx ot:List (List Int)}{X:List AO}(h0:cr N A0=true)(h1:cr N A1=true)(hN:2*n+6≤N)(hX:X.all (cr N)=true):
 (A0::A1:: .dead d2:: .rowc e sz v1 (frN V n):: .rowc e sz v2 (frQ V n):: .dead d::frX E V nx ot X).all (cr N)=true:=by
 have e2:cr N (.dead d2)=true:=rfl;have e3:cr N (.rowc e sz v1 (frN V n))=true:=yJ (V:=V) (show 2*n+6≤N+1 by omega);have e4:cr N (.rowc e sz v2 (frQ V n))=true:=zo (V:=V) hN;have e5:cr N (.dead d)=true:=rfl;rw[List.all_cons,List.all_cons,List.all_cons,List.all_cons,List.all_cons,List.all_cons,h0,h1,e2,e3,e4,e5,yt hX];rfl
def JD:AV→Bool
 | .one (.row _ _)=>false
 |_=>true
theorem ld (k ver:Nat)(t:Ty)(xs:List t.den):∀ env:Env,env.all (λx=>JD x.2)=true→(env.map λx=>(x.1,match x.2 with| .one (.row k' v)=>if k'=k∧v=ver then AV.one (.list t xs) else .one (.row k' v)|v=>v))=env
 |[],_=>rfl
 |(n,v)::env,h=>by
  simp only[List.all_cons,Bool.and_eq_true] at h;rw[aJ,ld k ver t xs env h.2]
  congr 1
  simp only;split
  ·have h1:=h.1
   simp[JD] at h1
  ·rfl
def fzN (V:Nat):Nat→List (List Int)→List AC
 |_,[]=>[]
 |b,_::F=>.row b V::fzN V (b+2) F
theorem pJ (V:Nat):∀ (F:List (List Int)) (b:Nat),fzN V b F=(List.range F.length).map λi=>.row (2*i+b) V
 |[],_=>rfl
 |l::F,b=>by
  rw[fzN,pJ V F (b+2),ax,List.range_succ_eq_map,aJ,List.map_map]
  congr 1
  ·simp
  ·refine List.map_congr_left λi _=>?_
   simp only[Function.comp];congr 1;omega
theorem Qa {V:Nat}{F:List (List Int)}{n:Nat}(h:F.length=n):frN V n=fzN V 6 F:=by rw[pJ,h];rfl
theorem NP {V:Nat}{F:List (List Int)}{n:Nat}(h:F.length=n):frQ V n=fzN V 7 F:=by rw[pJ,h];rfl
theorem Ea {V:Nat}:∀ {F:List (List Int)} {b:Nat} {c:AC},c∈fzN V b F→∃ k,c= .row k V∧b≤k
 |[],_,_,h=>by cases h
 |l::F,b,c,h=>by
  rcases List.mem_cons.1 h with rfl|h
  ·exact⟨_,rfl,Υ _⟩
  ·obtain⟨k,e,hk⟩:=Ea h;exact⟨k,e,ω⟩
def fe (F:List (List Int)):List AC:=F.map λl=>.list (.int .i64) l
theorem Fx {F:List (List Int)}{c:AC}(h:c∈fe F):∀ k v,c≠.row k v:=by
 obtain⟨l,_,rfl⟩:=List.mem_map.1 h;intro k v e;cases e
theorem Aq {V:Nat}{ds:List (List Int)}{l:List Int}{F:List (List Int)}{b:Nat}:(fe ds++fzN V b (l::F)).map (frC b V Θ l)=fe (ds++[l])++fzN V (b+2) F:=by
 rw[List.map_append,sL λc hc k' v' e=>absurd e (Fx hc k' v')];simp only[fzN,aJ,frC,and_self,if_true];rw[sL λc hc k' v' e9=>by obtain⟨k2,e2,hk2⟩:=Ea hc;rw[e2] at e9;cases e9;omega];simp[fe]
theorem tM {C:Ctx}{Q:Exit→St→Prop}{c:Code}{A0 A1 A2 S:AO}{e E:TypeId}{v1 v2 sz V:Nat}{env:Env}{X:List AO}(hen:env.all (λx=>JD x.2)=true):∀ (nx ot ds1 ds2:List (List Int)) (D:List AO),ot.length=nx.length→
 AWP C c Q {env:=env,L:=A0::A1::A2:: .rowc e sz v1 (fe (ds1++nx)):: .rowc e sz v2 (fe (ds2++ot))::S::(D++(List.replicate (2*nx.length) (.dead V)++X))}→
 AWP C c Q {env:=env,L:=A0::A1::A2:: .rowc e sz v1 (fe ds1++fzN V (6+D.length) nx):: .rowc e sz v2 (fe ds2++fzN V (7+D.length) ot)::S::(D++frX E V nx ot X)}
 |[],[],ds1,ds2,D,_,h=>by
  simpa [fzN,frX,frR] using h
 |l::nx,r::ot,ds1,ds2,D,hl,h=>by
  refine j4 (s:={env:=env,L:=_}) (6+D.length) 3 (t:=.int .i64) (e:=E) (ver:=V) (xs:=l) (T:=e) (sz:=sz) (v9:=v1) (cs:=fe ds1++fzN V (6+D.length) (l::nx))
   (by show(A0::A1::A2::_)[6+D.length]? =_;rw[show 6+D.length=D.length+0+1+1+1+1+1+1 by omega];simp only[List.getElem?_cons_succ];rw[List.getElem?_append_right ω];simp[frX,frR]) rfl ?_
  refine(congrArg (λE'=>AWP C c Q {env:=E',L:=_}) (ld _ _ _ _ env hen)).mpr ?_;rw[Aq];have e1:∀ Y:AO,((A0::A1::A2:: .rowc e sz v1 (fe ds1++fzN V (6+D.length) (l::nx)):: .rowc e sz v2 (fe ds2++fzN V (7+D.length) (r::ot))::S::(D++frX E V (l::nx) (r::ot) X)).set (6+D.length) (.dead V)).set 3 Y=
   A0::A1::A2::Y:: .rowc e sz v2 (fe ds2++fzN V (7+D.length) (r::ot))::S::(D++(.dead V:: .row Θ E V r::frX E V nx ot X)):=by
   intro Y;rw[show 6+D.length=D.length+0+1+1+1+1+1+1 by omega];simp only[bV,bu];rw[List.set_append_right _ _ ω];simp[frX,frR]
  show AWP C c Q {env:=env,L:=List.set (List.set _ (6+D.length) (.dead V)) 3 _};rw[e1];refine j4 (s:={env:=env,L:=_}) (7+D.length) 4 (t:=.int .i64) (e:=E) (ver:=V) (xs:=r) (T:=e) (sz:=sz) (v9:=v2) (cs:=fe ds2++fzN V (7+D.length) (r::ot))
   (by show(A0::A1::A2::_)[7+D.length]? =_;rw[show 7+D.length=D.length+1+1+1+1+1+1+1 by omega];simp only[List.getElem?_cons_succ];rw[List.getElem?_append_right ω];simp) rfl ?_
  refine(congrArg (λE'=>AWP C c Q {env:=E',L:=_}) (ld _ _ _ _ env hen)).mpr ?_;rw[Aq];have e2:∀ Y Z:AO,((A0::A1::A2::Z:: .rowc e sz v2 (fe ds2++fzN V (7+D.length) (r::ot))::S::(D++(.dead V:: .row Θ E V r::frX E V nx ot X))).set (7+D.length) (.dead V)).set 4 Y=
   A0::A1::A2::Z::Y::S::((D++[.dead V,.dead V])++frX E V nx ot X):=by
   intro Y Z;rw[show 7+D.length=D.length+1+1+1+1+1+1+1 by omega];simp only[bV,bu];rw[List.set_append_right _ _ ω];simp
  show AWP C c Q {env:=env,L:=List.set (List.set _ (7+D.length) (.dead V)) 4 _};rw[e2];have ih:=tM (C:=C) (Q:=Q) (c:=c) (A0:=A0) (A1:=A1) (A2:=A2) (S:=S) (e:=e) (E:=E) (v1:=v1) (v2:=v2) (sz:=sz) (V:=V) (env:=env) (X:=X) hen nx ot (ds1++[l]) (ds2++[r]) (D++[.dead V,.dead V]) (by simpa using hl);rw[show 6+(D++[AO.dead V,.dead V]).length=6+D.length+2 by simp;omega,show 7+(D++[AO.dead V,.dead V]).length=7+D.length+2 by simp;omega] at ih;refine ih ?_;have e3:(ds1++[l])++nx=ds1++l::nx:=η;have e4:(ds2++[r])++ot=ds2++r::ot:=η;have e5:(D++[AO.dead V,.dead V])++(List.replicate (2*nx.length) (.dead V)++X)=D++(List.replicate (2*(l::nx).length) (.dead V)++X):=by
   rw[ax,show 2*(nx.length+1)=2*nx.length+1+1 by omega,List.replicate_succ,List.replicate_succ];simp
  rw[e3,e4,e5];exact h
 |[],_::_,_,_,_,hl,_=>by simp at hl
 |_::_,[],_,_,_,hl,_=>by simp at hl
theorem tZ {C:Ctx}{Q:Exit→St→Prop}{c:Code}{A0 A1 A2 S:AO}{e E:TypeId}{v1 v2 sz V n:Nat}{env:Env}{X:List AO}{nx ot:List (List Int)}(hen:env.all (λx=>JD x.2)=true)(h1:nx.length=n)(h2:ot.length=n)
 (h:AWP C c Q {env:=env,L:=A0::A1::A2:: .rowc e sz v1 (fe nx):: .rowc e sz v2 (fe ot)::S::(List.replicate (2*n) (.dead V)++X)}):
 AWP C c Q {env:=env,L:=A0::A1::A2:: .rowc e sz v1 (frN V n):: .rowc e sz v2 (frQ V n)::S::frX E V nx ot X}:=by
 rw[Qa h1,NP h2];have:=tM (C:=C) (Q:=Q) (c:=c) (A0:=A0) (A1:=A1) (A2:=A2) (S:=S) (e:=e) (E:=E) (v1:=v1) (v2:=v2) (sz:=sz) (V:=V) (env:=env) (X:=X) hen nx ot [] [] [] ω;simp only[aF,Nat.add_zero,aC,fe,aV] at this;exact this (by rw[h1];exact h)
theorem Gl (F:List (List Int)):fe F=F.flatMap (acs Γ):=by
 induction F with
 |nil=>rfl
 |cons l F ih=>simp only[fe,aJ,List.flatMap_cons,acs,aG,aC] at*;rw[ih]
theorem jO (F:List (List Int)):eF Γ F.length (fe F)=some F:=by rw[Gl];exact xj _ _
theorem mh (F:List (List Int)):(fe F).length=F.length:=by simp[fe]
theorem ddX {n:Nat}{d:AO}{X:List AO}(j:Nat):(List.replicate n d++X)[n+j]? =X[j]?:=by
 rw[List.getElem?_append_right η];simp
theorem ddS {n:Nat}{d x:AO}{X:List AO}(j:Nat):(List.replicate n d++X).set (n+j) x=List.replicate n d++X.set j x:=by
 rw[List.set_append_right _ _ η];simp
theorem OV {n N:Nat}{v:Nat}{X:List AO}(h:X.all (cr N)=true):(List.replicate n (AO.dead v)++X).all (cr N)=true:=by
 rw[List.all_append,h,Bool.and_true,List.all_eq_true];intro x hx;rw[List.eq_of_mem_replicate hx];rfl
theorem RY {A0 A1 A2 A3 A4 A5:AO}{n N v:Nat}{X:List AO}(h0:cr N A0=true)(h1:cr N A1=true)(h2:cr N A2=true)(h3:cr N A3=true)(h4:cr N A4=true)(h5:cr N A5=true)(hX:X.all (cr N)=true):
 (A0::A1::A2::A3::A4::A5::(List.replicate n (AO.dead v)++X)).all (cr N)=true:=by
 rw[List.all_cons,List.all_cons,List.all_cons,List.all_cons,List.all_cons,List.all_cons,h0,h1,h2,h3,h4,h5,OV hX];rfl
theorem RT {A0 A1 A2 A3 A4 A5 d:AO}{n:Nat}{X:List AO}:(A0::A1::A2::A3::A4::A5::(List.replicate n d++X)).length=n+X.length+6:=η
theorem CS {P:Program}{L0:List AO}{f:FuncId}{args:List AV}{v:AV}{upd:List (Nat×AO)}{fp:List Nat}{ob:AO}(h:cS P L0 f args {av:=v,upd:=upd,new:=[ob],fp:=fp})(hfp:∀ k,k<L0.length→k∈fp)(hv:fQ L0.length v=true)(hf:(cD L0 upd).all (cr L0.length)=true):
 cS P L0 f args {av:=v,upd:=upd,fp:=fp}:=by
 refine⟨h.1,λC L1 σ w vs hP hI ha hfp2 hlen=>?_⟩;have e:=nU hfp hfp2 hlen;subst e;refine(h.2 C L1 σ w vs hP hI ha (λ_ _=>rfl) rfl).mono λen w' hh=>?_;obtain⟨u,e1,σ',g1,g2,g3⟩:=hh;have hl:(cD L1 upd).length=L1.length:=gI _ _;have ht:(cD L1 upd++[ob]).take L1.length=cD L1 upd:=by rw[← hl];exact List.take_left
 simp only[app] at g1 g2 g3;obtain⟨k1,k2,k3⟩:=Cq (m:=L1.length) g1 (by rw[aq,hl];omega) (by rw[ht];exact hf);rw[ht] at k1 k2 k3;refine⟨u,e1,σ',?_,?_,?_⟩
 ·simp only[app,List.append_nil];exact k1
 ·simp only[app,List.append_nil];exact k3 _ _ hv g2
 ·simp only[app,List.append_nil];exact λc x hc=>k2 c x (lH hc) (g3 c x hc)
theorem MX {p:AO→Bool}{l:List AO}{k:Nat}{x:AO}(h:l.all p=true)(hx:p x=true):(l.set k x).all p=true:=by
 rw[List.all_eq_true] at h⊢;intro y hy;rcases List.mem_or_eq_of_mem_set hy with h1|h1
 ·exact h y h1
 ·rw[h1];exact hx
theorem sO {ls:List (List (List Int))}{k:Nat}(h:k<ls.length):(ls.take (k+1)).flatten=(ls.take k).flatten++ls.getD k []:=by
 rw[List.take_succ_eq_append_getElem h,List.flatten_append];simp[List.getD,h]
theorem sB (ls:List (List (List Int)))(k:Nat):(ls.take k).flatten.length≤ls.flatten.length:=by
 have h:ls.flatten=(ls.take k).flatten++(ls.drop k).flatten:=by rw[← List.flatten_append,List.take_append_drop]
 rw[h];simp
theorem Fs {P:Program}{f:FuncId}{args args':List AV}{r:AV}(hl:bv VLE args args')(h:aY P f args' r):aY P f args r:=
 ⟨h.1,λC L σ w vs hP hI ha=>h.2 C L σ w vs hP hI (bv.map2 (λa b c hab hac=>hab C L σ w c hac) hl ha)⟩
end Go.AV
namespace Go.Proofs.YtiedpcchhicifaaGreatDoor
open Go Go.AV
open Nat renaming reduceEqDiff→ad,reduceAdd→J,reduceLeDiff→ae,reduceLT→aj,reduceMul→af,reduceSub→ag
open List renaming set_cons_zero→bu,set_cons_succ→bV,getD_cons_zero→aI,length_append→aq,map_cons→aJ,cons_append→aG,map_nil→aV,length_cons→ax,nil_append→aC,take_succ_cons→cE,length_nil→aF,length_map→aE,length_replicate→aB,take_length→aP,mem_cons_self→ba,mem_cons_of_mem→aQ
open Int renaming toNat_natCast→az
theorem zT:type_of% (And.intro Tryz.ea146 (And.intro Tryz.ea220 (And.intro Tryz.ea241 (And.intro Tryz.ea249 (And.intro Tryz.ea276 (And.intro Tryz.el111 (And.intro Tryz.el123 (And.intro Tryz.el147 (And.intro Tryz.el174 (And.intro Tryz.el177 (And.intro Tryz.el22 (And.intro Tryz.el26 (And.intro Tryz.el32 (And.intro Tryz.el53 (And.intro Tryz.el54 (And.intro Tryz.fl122 (And.intro Tryz.mk143 (And.intro Tryz.mk218 (And.intro Tryz.mk73 (And.intro Tryz.sa146 (And.intro Tryz.sa220 (And.intro Tryz.sa241 (And.intro Tryz.sa249 (And.intro Tryz.sa276 (And.intro Tryz.st106 (And.intro Tryz.st114 (And.intro Tryz.st122 (And.intro Tryz.st145 (And.intro Tryz.st176 (And.intro Tryz.st24 (And.intro Tryz.st34 (And.intro Tryz.st38 (And.intro Tryz.st82 (And.intro Tryz.st84 (And.intro Tryz.st86 (And.intro Tryz.td1 (And.intro Tryz.td106 (And.intro Tryz.td111 (And.intro Tryz.td114 (And.intro Tryz.td118 (And.intro Tryz.td122 (And.intro Tryz.td123 (And.intro Tryz.td127 (And.intro Tryz.td131 (And.intro Tryz.td136 (And.intro Tryz.td138 (And.intro Tryz.td145 (And.intro Tryz.td146 (And.intro Tryz.td147 (And.intro Tryz.td174 (And.intro Tryz.td176 (And.intro Tryz.td177 (And.intro Tryz.td179 (And.intro Tryz.td186 (And.intro Tryz.td188 (And.intro Tryz.td2 (And.intro Tryz.td22 (And.intro Tryz.td220 (And.intro Tryz.td24 (And.intro Tryz.td241 (And.intro Tryz.td249 (And.intro Tryz.td26 (And.intro Tryz.td27 (And.intro Tryz.td276 (And.intro Tryz.td3 (And.intro Tryz.td32 (And.intro Tryz.td34 (And.intro Tryz.td38 (And.intro Tryz.td4 (And.intro Tryz.td5 (And.intro Tryz.td53 (And.intro Tryz.td54 (And.intro Tryz.td76 (And.intro Tryz.td78 (And.intro Tryz.td80 (And.intro Tryz.td82 (And.intro Tryz.td84 (And.intro Tryz.td86 Tryz.td9)))))))))))))))))))))))))))))))))))))))))))))))))))))))))))))))))))))))))))))):=
 And.intro Tryz.ea146 (And.intro Tryz.ea220 (And.intro Tryz.ea241 (And.intro Tryz.ea249 (And.intro Tryz.ea276 (And.intro Tryz.el111 (And.intro Tryz.el123 (And.intro Tryz.el147 (And.intro Tryz.el174 (And.intro Tryz.el177 (And.intro Tryz.el22 (And.intro Tryz.el26 (And.intro Tryz.el32 (And.intro Tryz.el53 (And.intro Tryz.el54 (And.intro Tryz.fl122 (And.intro Tryz.mk143 (And.intro Tryz.mk218 (And.intro Tryz.mk73 (And.intro Tryz.sa146 (And.intro Tryz.sa220 (And.intro Tryz.sa241 (And.intro Tryz.sa249 (And.intro Tryz.sa276 (And.intro Tryz.st106 (And.intro Tryz.st114 (And.intro Tryz.st122 (And.intro Tryz.st145 (And.intro Tryz.st176 (And.intro Tryz.st24 (And.intro Tryz.st34 (And.intro Tryz.st38 (And.intro Tryz.st82 (And.intro Tryz.st84 (And.intro Tryz.st86 (And.intro Tryz.td1 (And.intro Tryz.td106 (And.intro Tryz.td111 (And.intro Tryz.td114 (And.intro Tryz.td118 (And.intro Tryz.td122 (And.intro Tryz.td123 (And.intro Tryz.td127 (And.intro Tryz.td131 (And.intro Tryz.td136 (And.intro Tryz.td138 (And.intro Tryz.td145 (And.intro Tryz.td146 (And.intro Tryz.td147 (And.intro Tryz.td174 (And.intro Tryz.td176 (And.intro Tryz.td177 (And.intro Tryz.td179 (And.intro Tryz.td186 (And.intro Tryz.td188 (And.intro Tryz.td2 (And.intro Tryz.td22 (And.intro Tryz.td220 (And.intro Tryz.td24 (And.intro Tryz.td241 (And.intro Tryz.td249 (And.intro Tryz.td26 (And.intro Tryz.td27 (And.intro Tryz.td276 (And.intro Tryz.td3 (And.intro Tryz.td32 (And.intro Tryz.td34 (And.intro Tryz.td38 (And.intro Tryz.td4 (And.intro Tryz.td5 (And.intro Tryz.td53 (And.intro Tryz.td54 (And.intro Tryz.td76 (And.intro Tryz.td78 (And.intro Tryz.td80 (And.intro Tryz.td82 (And.intro Tryz.td84 (And.intro Tryz.td86 Tryz.td9)))))))))))))))))))))))))))))))))))))))))))))))))))))))))))))))))))))))))))))
def iw:Env→Nat→Bool
 |[],_=>false
 |(a,_)::r,k=>if a=k then true else iw r k
def iY (b:Bool)(k:Nat)(e r:Env):Env:=match b with
 |true=>(k,lkp e k)::r
 |false=>r
def d5 (e:Env):List Nat→Env
 |[]=>[]
 |k::ks=>iY (iw e k) k e (d5 e ks)
theorem LI {e:Env}{ks:List Nat}:d5 e ks=dh e (ks.filter (iw e)):=by
 induction ks with
 |nil=>rfl
 |cons k ks ih=>cases h:iw e k<;>simp[d5,iY,h,ih,dh,List.filter]
structure KX (ks:List Nat):Prop where
 t:True
theorem dF {C:Ctx}{c:Go.Code}{Q:Go.Exit→St→Prop}{s:St}{ks:List Nat}(h:AWP C c Q {env:=d5 s.env ks,L:=s.L}):AWP C c Q s:=by
 rw[LI] at h;exact fJ _ h
theorem kx {C:Ctx}{Q:Go.Exit→St→Prop}{c:Go.Code}{e0 e:Env}{L0:List AO}{ks:List Nat}(h:AWP C c Q {env:=e,L:=L0})(hX:KX ks:=by assumption)(he:d5 e0 ks=e:=by(simp only[zP,d5,iw,iY,reduceCtorEq,ad,J];exact rfl)):AWP C c Q {env:=e0,L:=L0}:=dF (ks:=ks) (by rw[he];exact h)
section
variable {P:Program} {ops rest:List Oper} {o:Oper} {s s':St} {tr tr':Tr} {K:St→Tr→Prop} {out:Out}
theorem zS1 (h:RG P ops rest s' tr' K)(h1:∀ k:Out→Prop,k out→op1 P s o k:=by(intro _ h;simp only[zO,zT,acs,reduceCtorEq,ad,J,ae,aj,af,ag,Mly.av,br];(repeat refine an ?_);(try refine .inl ?_);exact h))(h2:put s o out=s':=by(simp only[zP,J];exact rfl))(h3:tr++[cQ out]=tr':=by(simp only[zP,J];exact rfl))(hg:o.guard=none:=by exact rfl):RG P ops (o::rest) s tr K:=aw hg λ_ hk=>h1 _ (hk _ (by rw[h2,h3];exact h))
theorem zS3 (h:RG P ops rest s' tr' K)(h1:∀ k:Out→Prop,k out→op1 P s o k:=by(intro _ h;simp only[zO,zT,acs,reduceCtorEq,ad,J,ae,aj,af,ag];(repeat refine an ?_);(try refine .inl ?_);exact h))(h2:put s o out=s':=by(simp only[zP,J];exact rfl))(h3:tr++[cQ out]=tr':=by(simp only[zP,J];exact rfl))(hg:o.guard=none:=by exact rfl):RG P ops (o::rest) s tr K:=aw hg λ_ hk=>h1 _ (hk _ (by rw[h2,h3];exact h))
theorem zS4 (h:RG P ops rest s' tr' K)(h1:∀ k:Out→Prop,k out→op1 P s o k:=by(intro _ h;simp only[zO,zT,acs,reduceCtorEq,ad,J,ae,aj,af,ag];(repeat refine an ?_);exact Or.inr (Or.inl h)))(h2:put s o out=s':=by(simp only[zP,J];exact rfl))(h3:tr++[cQ out]=tr':=by(simp only[zP,J];exact rfl))(hg:o.guard=none:=by exact rfl):RG P ops (o::rest) s tr K:=aw hg λ_ hk=>h1 _ (hk _ (by rw[h2,h3];exact h))
theorem zS6 (h:RG P ops rest s' tr' K)(h1:∀ k:Out→Prop,k out→op1 P s o k:=by(intro _ h;simp only[zO,zT,acs,reduceCtorEq,ad,J,ae,aj,af,ag,Mly.av];(repeat refine an ?_);(try refine .inl ?_);exact h))(h2:put s o out=s':=by(simp only[zP,J];exact rfl))(h3:tr++[cQ out]=tr':=by(simp only[zP,J];exact rfl))(hg:o.guard=none:=by exact rfl):RG P ops (o::rest) s tr K:=aw hg λ_ hk=>h1 _ (hk _ (by rw[h2,h3];exact h))
theorem tC {A:Prop}(e:A)(h:RG P ops rest s' tr' K)(h1:A→∀ k:Out→Prop,k out→op1 P s o k:=by(intro e _ h;simp only[zO,zT,acs,reduceCtorEq,ad,J,ae,aj,af,ag,Mly.av,eW,fP,List.length_set,e];(repeat refine an ?_);(try refine .inl ?_);exact h))(h2:put s o out=s':=by(simp only[zP,J];exact rfl))(h3:tr++[cQ out]=tr':=by(simp only[zP,J];exact rfl))(hg:o.guard=none:=by exact rfl):RG P ops (o::rest) s tr K:=aw hg λ_ hk=>h1 e _ (hk _ (by rw[h2,h3];exact h))
theorem I6 (h:RG P ops rest s' tr' K)(h1:∀ k:Out→Prop,k out→op1 P s o k:=by(intro _ h;simp only[zO,zT,acs,reduceCtorEq,ad,J,ae,aj,af,ag,Mly.av];(repeat refine an ?_);exact Or.inr (Or.inl h)))(h2:put s o out=s':=by(simp only[zP,J];exact rfl))(h3:tr++[cQ out]=tr':=by(simp only[zP,J];exact rfl))(hg:o.guard=none:=by exact rfl):RG P ops (o::rest) s tr K:=aw hg λ_ hk=>h1 _ (hk _ (by rw[h2,h3];exact h))
theorem JV (h:RG P ops rest s' tr' K)(h1:∀ k:Out→Prop,k out→op1 P s o k:=by(intro _ h;simp only[zO,zT,acs,reduceCtorEq,ad,J,ae,aj,af,ag,Mly.av,aE,List.length_take];(repeat refine an ?_);(try refine .inl ?_);exact h))(h2:put s o out=s':=by(simp only[zP,J];exact rfl))(h3:tr++[cQ out]=tr':=by(simp only[zP,J];exact rfl))(hg:o.guard=none:=by exact rfl):RG P ops (o::rest) s tr K:=aw hg λ_ hk=>h1 _ (hk _ (by rw[h2,h3];exact h))
theorem Tu (h:RG P ops rest s' tr' K)(h1:∀ k:Out→Prop,k out→op1 P s o k:=by(intro _ h;simp only[zO,zT,acs,reduceCtorEq,ad,J,ae,aj,af,ag,ax,aF];(repeat refine an ?_);(try refine .inl ?_);exact h))(h2:put s o out=s':=by(simp only[zP,J];exact rfl))(h3:tr++[cQ out]=tr':=by(simp only[zP,J];exact rfl))(hg:o.guard=none:=by exact rfl):RG P ops (o::rest) s tr K:=aw hg λ_ hk=>h1 _ (hk _ (by rw[h2,h3];exact h))
theorem De (h:RG P ops rest s' tr' K)(h1:∀ k:Out→Prop,k out→op1 P s o k:=by(intro _ h;simp only[zO,zT,acs,reduceCtorEq,ad,J,ae,aj,af,ag,d7,Int.toNat_one,Int.reducePow,Int.reduceToNat];(repeat refine an ?_);(try refine .inl ?_);exact h))(h2:put s o out=s':=by(simp only[zP,J];exact rfl))(h3:tr++[cQ out]=tr':=by(simp only[zP,J];exact rfl))(hg:o.guard=none:=by exact rfl):RG P ops (o::rest) s tr K:=aw hg λ_ hk=>h1 _ (hk _ (by rw[h2,h3];exact h))
theorem CE {A:Prop}(e:A)(h:RG P ops rest s' tr' K)(h1:A→∀ k:Out→Prop,k out→op1 P s o k:=by(intro e _ h;simp only[zO,zT,acs,reduceCtorEq,ad,J,ae,aj,af,ag,d7,Int.toNat_one,Int.reducePow,Int.reduceToNat,gt,az,e];(repeat refine an ?_);(try refine .inl ?_);exact h))(h2:put s o out=s':=by(simp only[zP,J];exact rfl))(h3:tr++[cQ out]=tr':=by(simp only[zP,J];exact rfl))(hg:o.guard=none:=by exact rfl):RG P ops (o::rest) s tr K:=aw hg λ_ hk=>h1 e _ (hk _ (by rw[h2,h3];exact h))
theorem yB (h:RG P ops rest s' tr' K)(h1:∀ k:Out→Prop,k out→op1 P s o k:=by(intro _ h;simp only[zO,zT,acs,reduceCtorEq,ad,J,ae,aj,af,ag,az];(repeat refine an ?_);(try refine .inl ?_);exact h))(h2:put s o out=s':=by(simp only[zP,J];exact rfl))(h3:tr++[cQ out]=tr':=by(simp only[zP,J];exact rfl))(hg:o.guard=none:=by exact rfl):RG P ops (o::rest) s tr K:=aw hg λ_ hk=>h1 _ (hk _ (by rw[h2,h3];exact h))
theorem pp {A:Prop}(e:A)(h:RG P ops rest s' tr' K)(h1:A→∀ k:Out→Prop,k out→op1 P s o k:=by(intro e _ h;simp only[zO,zT,acs,reduceCtorEq,ad,J,ae,aj,af,ag,gt,az,e];(repeat refine an ?_);(try refine .inl ?_);exact h))(h2:put s o out=s':=by(simp only[zP,J];exact rfl))(h3:tr++[cQ out]=tr':=by(simp only[zP,J];exact rfl))(hg:o.guard=none:=by exact rfl):RG P ops (o::rest) s tr K:=aw hg λ_ hk=>h1 e _ (hk _ (by rw[h2,h3];exact h))
theorem Co {A:Prop}(e:A)(h:RG P ops rest s' tr' K)(h1:A→∀ k:Out→Prop,k out→op1 P s o k:=by(intro e _ h;simp only[zO,zT,acs,reduceCtorEq,ad,J,ae,aj,af,ag,e];(repeat refine an ?_);(try refine .inl ?_);exact h))(h2:put s o out=s':=by(simp only[zP,J];exact rfl))(h3:tr++[cQ out]=tr':=by(simp only[zP,J];exact rfl))(hg:o.guard=none:=by exact rfl):RG P ops (o::rest) s tr K:=aw hg λ_ hk=>h1 e _ (hk _ (by rw[h2,h3];exact h))
theorem Pc {A:Prop}(e:A)(h:RG P ops rest s' tr' K)(h1:A→∀ k:Out→Prop,k out→op1 P s o k:=by(intro e _ h;simp only[zO,zT,acs,reduceCtorEq,ad,J,ae,aj,af,ag,az,Int.toNat_zero,List.drop_zero,e];(repeat refine an ?_);(try refine .inl ?_);exact h))(h2:put s o out=s':=by(simp only[zP,J];exact rfl))(h3:tr++[cQ out]=tr':=by(simp only[zP,J];exact rfl))(hg:o.guard=none:=by exact rfl):RG P ops (o::rest) s tr K:=aw hg λ_ hk=>h1 e _ (hk _ (by rw[h2,h3];exact h))
theorem Hj {A:Prop}(e:A)(h:RG P ops rest s' tr' K)(h1:A→∀ k:Out→Prop,k out→op1 P s o k:=by(intro e _ h;simp only[zO,zT,acs,reduceCtorEq,ad,J,ae,aj,af,ag,Ty.dflt,az,e];(repeat refine an ?_);(try refine .inl ?_);exact h))(h2:put s o out=s':=by(simp only[zP,J];exact rfl))(h3:tr++[cQ out]=tr':=by(simp only[zP,J];exact rfl))(hg:o.guard=none:=by exact rfl):RG P ops (o::rest) s tr K:=aw hg λ_ hk=>h1 e _ (hk _ (by rw[h2,h3];exact h))
theorem tB (h:RG P ops rest s' tr' K)(h1:∀ k:Out→Prop,k out→op1 P s o k:=by(intro _ h;simp only[zO,zT,acs,reduceCtorEq,ad,J,ae,aj,af,ag];(repeat refine And.intro (by first|omega|assumption|exact rfl|exact⟨δ,δ⟩|decide) ?_);(try refine .inl ?_);exact h))(h2:put s o out=s':=by(simp only[zP,J];exact rfl))(h3:tr++[cQ out]=tr':=by(simp only[zP,J];exact rfl))(hg:o.guard=none:=by exact rfl):RG P ops (o::rest) s tr K:=aw hg λ_ hk=>h1 _ (hk _ (by rw[h2,h3];exact h))
theorem VB (h:RG P ops rest s' tr' K)(h1:∀ k:Out→Prop,k out→op1 P s o k:=by(intro _ h;simp only[zO,zT,acs,reduceCtorEq,ad,J,ae,aj,af,ag,gt,az,Ty.dflt];(repeat refine an ?_);(try refine .inl ?_);exact h))(h2:put s o out=s':=by(simp only[zP,J];exact rfl))(h3:tr++[cQ out]=tr':=by(simp only[zP,J];exact rfl))(hg:o.guard=none:=by exact rfl):RG P ops (o::rest) s tr K:=aw hg λ_ hk=>h1 _ (hk _ (by rw[h2,h3];exact h))
theorem Jg (h:RG P ops rest s' tr' K)(h1:∀ k:Out→Prop,k out→op1 P s o k:=by(intro _ h;simp only[zO,zT,acs,reduceCtorEq,ad,J,ae,aj,af,ag,az,Ty.dflt];(repeat refine an ?_);(try refine .inl ?_);exact h))(h2:put s o out=s':=by(simp only[zP,J];exact rfl))(h3:tr++[cQ out]=tr':=by(simp only[zP,J];exact rfl))(hg:o.guard=none:=by exact rfl):RG P ops (o::rest) s tr K:=aw hg λ_ hk=>h1 _ (hk _ (by rw[h2,h3];exact h))
theorem Vo (h:RG P ops rest s' tr' K)(h1:∀ k:Out→Prop,k out→op1 P s o k:=by(intro _ h;simp only[zO,zT,acs,reduceCtorEq,ad,J,ae,aj,af,ag,gt,az];(repeat refine an ?_);(try refine .inl ?_);exact h))(h2:put s o out=s':=by(simp only[zP,J];exact rfl))(h3:tr++[cQ out]=tr':=by(simp only[zP,J];exact rfl))(hg:o.guard=none:=by exact rfl):RG P ops (o::rest) s tr K:=aw hg λ_ hk=>h1 _ (hk _ (by rw[h2,h3];exact h))
theorem kU (h:RG P ops rest s' tr' K)(h1:∀ k:Out→Prop,k out→op1 P s o k:=by(intro _ h;simp only[zO,zT,acs,reduceCtorEq,ad,J,ae,aj,af,ag,Mly.av,br,vF];(repeat refine an ?_);(try refine .inl ?_);exact h))(h2:put s o out=s':=by(simp only[zP,J];exact rfl))(h3:tr++[cQ out]=tr':=by(simp only[zP,J];exact rfl))(hg:o.guard=none:=by exact rfl):RG P ops (o::rest) s tr K:=aw hg λ_ hk=>h1 _ (hk _ (by rw[h2,h3];exact h))
theorem D9 (h:RG P ops rest s' tr' K)(h1:∀ k:Out→Prop,k out→op1 P s o k:=by(intro _ h;simp only[zO,zT,acs,reduceCtorEq,ad,J,ae,aj,af,ag,Mly.av,gt,az];(repeat refine an ?_);(try refine .inl ?_);exact h))(h2:put s o out=s':=by(simp only[zP,J];exact rfl))(h3:tr++[cQ out]=tr':=by(simp only[zP,J];exact rfl))(hg:o.guard=none:=by exact rfl):RG P ops (o::rest) s tr K:=aw hg λ_ hk=>h1 _ (hk _ (by rw[h2,h3];exact h))
theorem xq {A:Prop}(e:A)(h:RG P ops rest s' tr' K)(h1:A→∀ k:Out→Prop,k out→op1 P s o k:=by(intro e _ h;simp only[zO,zT,acs,reduceCtorEq,ad,J,ae,aj,af,ag,Mly.av,e];(repeat refine an ?_);(try refine .inl ?_);exact h))(h2:put s o out=s':=by(simp only[zP,J];exact rfl))(h3:tr++[cQ out]=tr':=by(simp only[zP,J];exact rfl))(hg:o.guard=none:=by exact rfl):RG P ops (o::rest) s tr K:=aw hg λ_ hk=>h1 e _ (hk _ (by rw[h2,h3];exact h))
theorem Qi (h:RG P ops rest s' tr' K)(h1:∀ k:Out→Prop,k out→op1 P s o k:=by(intro _ h;simp only[zO,zT,acs,reduceCtorEq,ad,J,ae,aj,af,ag,Mly.av,gt];(repeat refine an ?_);(try refine .inl ?_);exact h))(h2:put s o out=s':=by(simp only[zP,J];exact rfl))(h3:tr++[cQ out]=tr':=by(simp only[zP,J];exact rfl))(hg:o.guard=none:=by exact rfl):RG P ops (o::rest) s tr K:=aw hg λ_ hk=>h1 _ (hk _ (by rw[h2,h3];exact h))
theorem J2 {A:Prop}(e:A)(h:RG P ops rest s' tr' K)(h1:A→∀ k:Out→Prop,k out→op1 P s o k:=by(intro e _ h;simp only[zO,zT,acs,reduceCtorEq,ad,J,ae,aj,af,ag,Option.map_some,e];(repeat refine And.intro (by first|omega|assumption|exact rfl|exact⟨ω,ω⟩) ?_);(try refine .inl ?_);exact h))(h2:put s o out=s':=by(simp only[zP,J];exact rfl))(h3:tr++[cQ out]=tr':=by(simp only[zP,J];exact rfl))(hg:o.guard=none:=by exact rfl):RG P ops (o::rest) s tr K:=aw hg λ_ hk=>h1 e _ (hk _ (by rw[h2,h3];exact h))
theorem P9 (h:RG P ops rest s' tr' K)(h1:∀ k:Out→Prop,k out→op1 P s o k:=by(intro _ h;simp only[zO,zT,acs,reduceCtorEq,ad,J,ae,aj,af,ag,Mly.av,o5];(repeat refine an ?_);(try refine .inl ?_);exact h))(h2:put s o out=s':=by(simp only[zP,J];exact rfl))(h3:tr++[cQ out]=tr':=by(simp only[zP,J];exact rfl))(hg:o.guard=none:=by exact rfl):RG P ops (o::rest) s tr K:=aw hg λ_ hk=>h1 _ (hk _ (by rw[h2,h3];exact h))
theorem DH {A:Prop}(e:A)(h:RG P ops rest s' tr' K)(h1:A→∀ k:Out→Prop,k out→op1 P s o k:=by(intro e _ h;simp only[zO,zT,acs,reduceCtorEq,ad,J,ae,aj,af,ag,Mly.av,Int.toNat_zero,Nat.add_zero,e];(repeat refine an ?_);(try refine .inl ?_);exact h))(h2:put s o out=s':=by(simp only[zP,J];exact rfl))(h3:tr++[cQ out]=tr':=by(simp only[zP,J];exact rfl))(hg:o.guard=none:=by exact rfl):RG P ops (o::rest) s tr K:=aw hg λ_ hk=>h1 e _ (hk _ (by rw[h2,h3];exact h))
theorem Mo {A:Prop}(e:A)(h:RG P ops rest s' tr' K)(h1:A→∀ k:Out→Prop,k out→op1 P s o k:=by(intro e _ h;simp only[zO,zT,acs,reduceCtorEq,ad,J,ae,aj,af,ag,Mly.av,az,Nat.mul_one,Nat.add_zero,e];(repeat refine an ?_);(try refine .inl ?_);exact h))(h2:put s o out=s':=by(simp only[zP,J];exact rfl))(h3:tr++[cQ out]=tr':=by(simp only[zP,J];exact rfl))(hg:o.guard=none:=by exact rfl):RG P ops (o::rest) s tr K:=aw hg λ_ hk=>h1 e _ (hk _ (by rw[h2,h3];exact h))
theorem Q3 (h:RG P ops rest s' tr' K)(h1:∀ k:Out→Prop,k out→op1 P s o k:=by(intro _ h;simp only[zO,zT,acs,reduceCtorEq,ad,J,ae,aj,af,ag,Mly.av,aE];(repeat refine an ?_);(try refine .inl ?_);exact h))(h2:put s o out=s':=by(simp only[zP,J];exact rfl))(h3:tr++[cQ out]=tr':=by(simp only[zP,J];exact rfl))(hg:o.guard=none:=by exact rfl):RG P ops (o::rest) s tr K:=aw hg λ_ hk=>h1 _ (hk _ (by rw[h2,h3];exact h))
theorem J3 {A:Prop}(e:A)(h:RG P ops rest s' tr' K)(h1:A→∀ k:Out→Prop,k out→op1 P s o k:=by(intro e _ h;simp only[zO,zT,acs,reduceCtorEq,ad,J,ae,aj,af,ag,Mly.av,gt,az,aE,e];(repeat refine an ?_);(try refine .inl ?_);exact h))(h2:put s o out=s':=by(simp only[zP,J];exact rfl))(h3:tr++[cQ out]=tr':=by(simp only[zP,J];exact rfl))(hg:o.guard=none:=by exact rfl):RG P ops (o::rest) s tr K:=aw hg λ_ hk=>h1 e _ (hk _ (by rw[h2,h3];exact h))
theorem qx (h:RG P ops rest s' tr' K)(h1:∀ k:Out→Prop,k out→op1 P s o k:=by(intro _ h;simp only[zO,zT,acs,reduceCtorEq,ad,J,ae,aj,af,ag,d7,fV,fY];(repeat refine an ?_);(try refine .inl ?_);exact h))(h2:put s o out=s':=by(simp only[zP,J];exact rfl))(h3:tr++[cQ out]=tr':=by(simp only[zP,J];exact rfl))(hg:o.guard=none:=by exact rfl):RG P ops (o::rest) s tr K:=aw hg λ_ hk=>h1 _ (hk _ (by rw[h2,h3];exact h))
theorem Ai (h:RG P ops rest s' tr' K)(h1:∀ k:Out→Prop,k out→op1 P s o k:=by(intro _ h;simp only[zO,zT,acs,reduceCtorEq,ad,J,ae,aj,af,ag,d7];(repeat refine an ?_);(try refine .inl ?_);exact h))(h2:put s o out=s':=by(simp only[zP,J];exact rfl))(h3:tr++[cQ out]=tr':=by(simp only[zP,J];exact rfl))(hg:o.guard=none:=by exact rfl):RG P ops (o::rest) s tr K:=aw hg λ_ hk=>h1 _ (hk _ (by rw[h2,h3];exact h))
theorem zD7 (h:RG P ops rest s' tr' K)(h1:∀ k:Out→Prop,k out→op1 P s o k:=by(intro _ h;simp only[zO,zT,acs,reduceCtorEq,ad,J,ae,aj,af,ag,Mly.av];(repeat refine an ?_);(try refine .inl ?_);exact h))(h2:put s o out=s':=by(simp only[zP,J];exact rfl))(h3:tr++[cQ out]=tr':=by(simp only[zP,J];exact rfl))(hg:gval ops s.env o=some true:=by exact rfl):RG P ops (o::rest) s tr K:=db hg λ_ hk=>h1 _ (hk _ (by rw[h2,h3];exact h))
theorem tE (h:RG P ops rest s' tr' K)(h1:∀ k:Out→Prop,k out→op1 P s o k:=by(intro _ h;simp only[zO,zT,acs,reduceCtorEq,ad,J,ae,aj,af,ag];(repeat refine an ?_);(try refine .inl ?_);exact h))(h2:put s o out=s':=by(simp only[zP,J];exact rfl))(h3:tr++[cQ out]=tr':=by(simp only[zP,J];exact rfl))(hg:gval ops s.env o=some true:=by exact rfl):RG P ops (o::rest) s tr K:=db hg λ_ hk=>h1 _ (hk _ (by rw[h2,h3];exact h))
theorem yS {A:Prop}(e:A)(h:RG P ops rest s' tr' K)(h1:A→∀ k:Out→Prop,k out→op1 P s o k:=by(intro e _ h;simp only[zO,zT,acs,reduceCtorEq,ad,J,ae,aj,af,ag,gt,az,e];(repeat refine an ?_);(try refine .inl ?_);exact h))(h2:put s o out=s':=by(simp only[zP,J];exact rfl))(h3:tr++[cQ out]=tr':=by(simp only[zP,J];exact rfl))(hg:gval ops s.env o=some true:=by exact rfl):RG P ops (o::rest) s tr K:=db hg λ_ hk=>h1 e _ (hk _ (by rw[h2,h3];exact h))
theorem MZ (h:RG P ops rest s' tr' K)(h1:∀ k:Out→Prop,k out→op1 P s o k:=by(intro _ h;simp only[zO,zT,acs,reduceCtorEq,ad,J,ae,aj,af,ag,Mly.av,br,vF];(repeat refine an ?_);(try refine .inl ?_);exact h))(h2:put s o out=s':=by(simp only[zP,J];exact rfl))(h3:tr++[cQ out]=tr':=by(simp only[zP,J];exact rfl))(hg:gval ops s.env o=some true:=by exact rfl):RG P ops (o::rest) s tr K:=db hg λ_ hk=>h1 _ (hk _ (by rw[h2,h3];exact h))
theorem zC8 {c:Call}{g:Operand}{f:FuncId}{caps:List Cap}{args:List AV}(h:cS P s.L f args out)(k:RG P ops rest s' tr' K)(ho:o.op= .call c:=by exact rfl)(hc:c.callee= .value g:=by exact rfl)(hf:ev s.env g= .one (.fn f caps):=by first|exact rfl|(simp only[ev,zP,ad,J];exact rfl))(ha:c.args.toList.map (ev s.env)++caps.map dG=args:=by(simp only[zV,acs,reduceCtorEq,ad,J,ae,aj,af,ag,Mly.av]))(h2:put s o out=s':=by(simp only[zP,J];exact rfl))(h3:tr++[cQ out]=tr':=by(simp only[zP,J];exact rfl))(hg:o.guard=none:=by exact rfl):RG P ops (o::rest) s tr K:=aw hg λ_ hk=>bo ho hc hf (ha) h (hk _ (by rw[h2,h3];exact k))
theorem zC9 {c:Call}{g:Operand}{f:FuncId}{caps:List Cap}{args:List AV}(h:cS P s.L f args out)(k:RG P ops rest s' tr' K)(ho:o.op= .call c:=by exact rfl)(hc:c.callee= .value g:=by exact rfl)(hf:ev s.env g= .one (.fn f caps):=by first|exact rfl|(simp only[ev,zP,ad,J];exact rfl))(ha:c.args.toList.map (ev s.env)++caps.map dG=args:=by(simp only[zV,acs,reduceCtorEq,ad,J,ae,aj,af,ag]))(h2:put s o out=s':=by(simp only[zP,J];exact rfl))(h3:tr++[cQ out]=tr':=by(simp only[zP,J];exact rfl))(hg:o.guard=none:=by exact rfl):RG P ops (o::rest) s tr K:=aw hg λ_ hk=>bo ho hc hf (ha) h (hk _ (by rw[h2,h3];exact k))
theorem NV {c:Call}{g:Operand}{f:FuncId}{caps:List Cap}{args:List AV}(h:cS P s.L f args out)(k:RG P ops rest s' tr' K)(ho:o.op= .call c:=by exact rfl)(hc:c.callee= .value g:=by exact rfl)(hf:ev s.env g= .one (.fn f caps):=by first|exact rfl|(simp only[ev,zP,ad,J];exact rfl))(ha:c.args.toList.map (ev s.env)++caps.map dG=args:=by(simp only[zV,acs,reduceCtorEq,ad,J,ae,aj,af,ag,Mly.av,br]))(h2:put s o out=s':=by(simp only[zP,J];exact rfl))(h3:tr++[cQ out]=tr':=by(simp only[zP,J];exact rfl))(hg:o.guard=none:=by exact rfl):RG P ops (o::rest) s tr K:=aw hg λ_ hk=>bo ho hc hf (ha) h (hk _ (by rw[h2,h3];exact k))
theorem Ci {c:Call}{g:Operand}{f:FuncId}{caps:List Cap}{args:List AV}(h:cS P s.L f args out)(k:RG P ops rest s' tr' K)(ho:o.op= .call c:=by exact rfl)(hc:c.callee= .value g:=by exact rfl)(hf:ev s.env g= .one (.fn f caps):=by first|exact rfl|(simp only[ev,zP,ad,J];exact rfl))(ha:c.args.toList.map (ev s.env)++caps.map dG=args:=by(simp only[zV,acs,reduceCtorEq,ad,J,ae,aj,af,ag,Mly.av,br,vF]))(h2:put s o out=s':=by(simp only[zP,J];exact rfl))(h3:tr++[cQ out]=tr':=by(simp only[zP,J];exact rfl))(hg:o.guard=none:=by exact rfl):RG P ops (o::rest) s tr K:=aw hg λ_ hk=>bo ho hc hf (ha) h (hk _ (by rw[h2,h3];exact k))
theorem wX {A:Prop}{c:Call}{g:Operand}{f:FuncId}{caps:List Cap}{args:List AV}(e:A)(h:cS P s.L f args out)(k:RG P ops rest s' tr' K)(ho:o.op= .call c:=by exact rfl)(hc:c.callee= .value g:=by exact rfl)(hf:ev s.env g= .one (.fn f caps):=by first|exact rfl|(simp only[ev,zP,ad,J];exact rfl))(ha:A→c.args.toList.map (ev s.env)++caps.map dG=args:=by(intro e;simp only[zV,acs,reduceCtorEq,ad,J,ae,aj,af,ag,Option.map_some,AV.valOf,VK.ac,e]))(h2:put s o out=s':=by(simp only[zP,J];exact rfl))(h3:tr++[cQ out]=tr':=by(simp only[zP,J];exact rfl))(hg:o.guard=none:=by exact rfl):RG P ops (o::rest) s tr K:=aw hg λ_ hk=>bo ho hc hf (ha e) h (hk _ (by rw[h2,h3];exact k))
theorem zT0 {C:Ctx}{Q:Go.Exit→St→Prop}{N id:Nat}{l:List Oper}{c2:Go.Code}{e e0:Env}{L0:List AO}{ks:List Nat}(h:AWP C c2 Q {env:=e,L:=L0})(hP:C.P=P:=by assumption)(hN:C.N=N:=by assumption)(hd:dB N l=true:=by exact rfl)(hr:∀ K:St→Prop,K {env:=e0,L:=L0}→RG P l l s [] (λs' _=>gl K Q .normal s'):=by(intro _ h;(repeat refine zS1 ?_);exact ah h))(hX:KX ks:=by assumption)(he:d5 e0 ks=e:=by(simp only[zP,d5,iw,iY,reduceCtorEq,ad,J];exact rfl)):AWP C (.seq (.region id l.toArray false) c2) Q s:=aa λK hK=>am hP hN hd (hr K (hK _ (dF (ks:=ks) (by rw[he];exact h))))
theorem zR2 {C:Ctx}{Q:Go.Exit→St→Prop}{N id:Nat}{l:List Oper}(hP:C.P=P:=by assumption)(hN:C.N=N:=by assumption)(hd:dB N l=true:=by exact rfl)(hr:Q .normal s'→RG P l l s [] (λs' _=>Q .normal s'):=by(intro h;(repeat refine zS3 ?_);exact ah h))(h:Q .normal s'):AWP C (.region id l.toArray false) Q s:=am hP hN hd (hr h)
theorem zT2 {C:Ctx}{Q:Go.Exit→St→Prop}{N id:Nat}{l:List Oper}{c2:Go.Code}{e e0:Env}{L0:List AO}{ks:List Nat}(h:AWP C c2 Q {env:=e,L:=L0})(hP:C.P=P:=by assumption)(hN:C.N=N:=by assumption)(hd:dB N l=true:=by exact rfl)(hr:∀ K:St→Prop,K {env:=e0,L:=L0}→RG P l l s [] (λs' _=>gl K Q .normal s'):=by(intro _ h;(repeat refine zS3 ?_);exact ah h))(hX:KX ks:=by assumption)(he:d5 e0 ks=e:=by(simp only[zP,d5,iw,iY,reduceCtorEq,ad,J];exact rfl)):AWP C (.seq (.region id l.toArray false) c2) Q s:=aa λK hK=>am hP hN hd (hr K (hK _ (dF (ks:=ks) (by rw[he];exact h))))
theorem zR5 {C:Ctx}{Q:Go.Exit→St→Prop}{N id:Nat}{l:List Oper}(hP:C.P=P:=by assumption)(hN:C.N=N:=by assumption)(hd:dB N l=true:=by exact rfl)(hr:Q .normal s'→RG P l l s [] (λs' _=>Q .normal s'):=by(intro h;(repeat refine zS6 ?_);exact ah h))(h:Q .normal s'):AWP C (.region id l.toArray false) Q s:=am hP hN hd (hr h)
theorem zT5 {C:Ctx}{Q:Go.Exit→St→Prop}{N id:Nat}{l:List Oper}{c2:Go.Code}{e e0:Env}{L0:List AO}{ks:List Nat}(h:AWP C c2 Q {env:=e,L:=L0})(hP:C.P=P:=by assumption)(hN:C.N=N:=by assumption)(hd:dB N l=true:=by exact rfl)(hr:∀ K:St→Prop,K {env:=e0,L:=L0}→RG P l l s [] (λs' _=>gl K Q .normal s'):=by(intro _ h;(repeat refine zS6 ?_);exact ah h))(hX:KX ks:=by assumption)(he:d5 e0 ks=e:=by(simp only[zP,d5,iw,iY,reduceCtorEq,ad,J];exact rfl)):AWP C (.seq (.region id l.toArray false) c2) Q s:=aa λK hK=>am hP hN hd (hr K (hK _ (dF (ks:=ks) (by rw[he];exact h))))
theorem CY {A:Prop}{C:Ctx}{Q:Go.Exit→St→Prop}{N id:Nat}{l:List Oper}(e:A)(hP:C.P=P:=by assumption)(hN:C.N=N:=by assumption)(hd:dB N l=true:=by exact rfl)(hr:A→Q .normal s'→RG P l l s [] (λs' _=>Q .normal s'):=by(intro e h;(repeat refine tC e ?_);exact ah h))(h:Q .normal s'):AWP C (.region id l.toArray false) Q s:=am hP hN hd (hr e h)
theorem ni {A:Prop}{C:Ctx}{Q:Go.Exit→St→Prop}{N id:Nat}{l:List Oper}{c2:Go.Code}{e e0:Env}{L0:List AO}{ks:List Nat}(z:A)(h:AWP C c2 Q {env:=e,L:=L0})(hP:C.P=P:=by assumption)(hN:C.N=N:=by assumption)(hd:dB N l=true:=by exact rfl)(hr:A→∀ K:St→Prop,K {env:=e0,L:=L0}→RG P l l s [] (λs' _=>gl K Q .normal s'):=by(intro e _ h;(repeat refine tC e ?_);exact ah h))(hX:KX ks:=by assumption)(he:d5 e0 ks=e:=by(simp only[zP,d5,iw,iY,reduceCtorEq,ad,J];exact rfl)):AWP C (.seq (.region id l.toArray false) c2) Q s:=aa λK hK=>am hP hN hd (hr z K (hK _ (dF (ks:=ks) (by rw[he];exact h))))
theorem To {C:Ctx}{Q:Go.Exit→St→Prop}{N id:Nat}{l:List Oper}(hP:C.P=P:=by assumption)(hN:C.N=N:=by assumption)(hd:dB N l=true:=by exact rfl)(hr:Q .normal s'→RG P l l s [] (λs' _=>Q .normal s'):=by(intro h;(repeat refine Tu ?_);exact ah h))(h:Q .normal s'):AWP C (.region id l.toArray false) Q s:=am hP hN hd (hr h)
theorem vB {C:Ctx}{Q:Go.Exit→St→Prop}{N id:Nat}{l:List Oper}{c2:Go.Code}{e e0:Env}{L0:List AO}{ks:List Nat}(h:AWP C c2 Q {env:=e,L:=L0})(hP:C.P=P:=by assumption)(hN:C.N=N:=by assumption)(hd:dB N l=true:=by exact rfl)(hr:∀ K:St→Prop,K {env:=e0,L:=L0}→RG P l l s [] (λs' _=>gl K Q .normal s'):=by(intro _ h;(repeat refine Tu ?_);exact ah h))(hX:KX ks:=by assumption)(he:d5 e0 ks=e:=by(simp only[zP,d5,iw,iY,reduceCtorEq,ad,J];exact rfl)):AWP C (.seq (.region id l.toArray false) c2) Q s:=aa λK hK=>am hP hN hd (hr K (hK _ (dF (ks:=ks) (by rw[he];exact h))))
theorem Tp {C:Ctx}{Q:Go.Exit→St→Prop}{N id:Nat}{l:List Oper}(hP:C.P=P:=by assumption)(hN:C.N=N:=by assumption)(hd:dB N l=true:=by exact rfl)(hr:Q .normal s'→RG P l l s [] (λs' _=>Q .normal s'):=by(intro h;(repeat refine De ?_);exact ah h))(h:Q .normal s'):AWP C (.region id l.toArray false) Q s:=am hP hN hd (hr h)
theorem HG {C:Ctx}{Q:Go.Exit→St→Prop}{N id:Nat}{l:List Oper}{c2:Go.Code}{e e0:Env}{L0:List AO}{ks:List Nat}(h:AWP C c2 Q {env:=e,L:=L0})(hP:C.P=P:=by assumption)(hN:C.N=N:=by assumption)(hd:dB N l=true:=by exact rfl)(hr:∀ K:St→Prop,K {env:=e0,L:=L0}→RG P l l s [] (λs' _=>gl K Q .normal s'):=by(intro _ h;(repeat refine De ?_);exact ah h))(hX:KX ks:=by assumption)(he:d5 e0 ks=e:=by(simp only[zP,d5,iw,iY,reduceCtorEq,ad,J];exact rfl)):AWP C (.seq (.region id l.toArray false) c2) Q s:=aa λK hK=>am hP hN hd (hr K (hK _ (dF (ks:=ks) (by rw[he];exact h))))
theorem vE {C:Ctx}{Q:Go.Exit→St→Prop}{N id:Nat}{l:List Oper}(hP:C.P=P:=by assumption)(hN:C.N=N:=by assumption)(hd:dB N l=true:=by exact rfl)(hr:Q .normal s'→RG P l l s [] (λs' _=>Q .normal s'):=by(intro h;(repeat refine yB ?_);exact ah h))(h:Q .normal s'):AWP C (.region id l.toArray false) Q s:=am hP hN hd (hr h)
theorem tJ {C:Ctx}{Q:Go.Exit→St→Prop}{N id:Nat}{l:List Oper}{c2:Go.Code}{e e0:Env}{L0:List AO}{ks:List Nat}(h:AWP C c2 Q {env:=e,L:=L0})(hP:C.P=P:=by assumption)(hN:C.N=N:=by assumption)(hd:dB N l=true:=by exact rfl)(hr:∀ K:St→Prop,K {env:=e0,L:=L0}→RG P l l s [] (λs' _=>gl K Q .normal s'):=by(intro _ h;(repeat refine yB ?_);exact ah h))(hX:KX ks:=by assumption)(he:d5 e0 ks=e:=by(simp only[zP,d5,iw,iY,reduceCtorEq,ad,J];exact rfl)):AWP C (.seq (.region id l.toArray false) c2) Q s:=aa λK hK=>am hP hN hd (hr K (hK _ (dF (ks:=ks) (by rw[he];exact h))))
theorem zd {A:Prop}{C:Ctx}{Q:Go.Exit→St→Prop}{N id:Nat}{l:List Oper}(e:A)(hP:C.P=P:=by assumption)(hN:C.N=N:=by assumption)(hd:dB N l=true:=by exact rfl)(hr:A→Q .normal s'→RG P l l s [] (λs' _=>Q .normal s'):=by(intro e h;(repeat refine pp e ?_);exact ah h))(h:Q .normal s'):AWP C (.region id l.toArray false) Q s:=am hP hN hd (hr e h)
theorem Vi {A:Prop}{C:Ctx}{Q:Go.Exit→St→Prop}{N id:Nat}{l:List Oper}{c2:Go.Code}{e e0:Env}{L0:List AO}{ks:List Nat}(z:A)(h:AWP C c2 Q {env:=e,L:=L0})(hP:C.P=P:=by assumption)(hN:C.N=N:=by assumption)(hd:dB N l=true:=by exact rfl)(hr:A→∀ K:St→Prop,K {env:=e0,L:=L0}→RG P l l s [] (λs' _=>gl K Q .normal s'):=by(intro e _ h;(repeat refine pp e ?_);exact ah h))(hX:KX ks:=by assumption)(he:d5 e0 ks=e:=by(simp only[zP,d5,iw,iY,reduceCtorEq,ad,J];exact rfl)):AWP C (.seq (.region id l.toArray false) c2) Q s:=aa λK hK=>am hP hN hd (hr z K (hK _ (dF (ks:=ks) (by rw[he];exact h))))
theorem yn {C:Ctx}{Q:Go.Exit→St→Prop}{N id:Nat}{l:List Oper}{c2:Go.Code}{e e0:Env}{L0:List AO}{ks:List Nat}(h:AWP C c2 Q {env:=e,L:=L0})(hP:C.P=P:=by assumption)(hN:C.N=N:=by assumption)(hd:dB N l=true:=by exact rfl)(hr:∀ K:St→Prop,K {env:=e0,L:=L0}→RG P l l s [] (λs' _=>gl K Q .normal s'):=by(intro _ h;(repeat refine tB ?_);exact ah h))(hX:KX ks:=by assumption)(he:d5 e0 ks=e:=by(simp only[zP,d5,iw,iY,reduceCtorEq,ad,J];exact rfl)):AWP C (.seq (.region id l.toArray false) c2) Q s:=aa λK hK=>am hP hN hd (hr K (hK _ (dF (ks:=ks) (by rw[he];exact h))))
theorem JE {C:Ctx}{Q:Go.Exit→St→Prop}{N id:Nat}{l:List Oper}{c2:Go.Code}{e e0:Env}{L0:List AO}{ks:List Nat}(h:AWP C c2 Q {env:=e,L:=L0})(hP:C.P=P:=by assumption)(hN:C.N=N:=by assumption)(hd:dB N l=true:=by exact rfl)(hr:∀ K:St→Prop,K {env:=e0,L:=L0}→RG P l l s [] (λs' _=>gl K Q .normal s'):=by(intro _ h;(repeat refine VB ?_);exact ah h))(hX:KX ks:=by assumption)(he:d5 e0 ks=e:=by(simp only[zP,d5,iw,iY,reduceCtorEq,ad,J];exact rfl)):AWP C (.seq (.region id l.toArray false) c2) Q s:=aa λK hK=>am hP hN hd (hr K (hK _ (dF (ks:=ks) (by rw[he];exact h))))
theorem Ou {C:Ctx}{Q:Go.Exit→St→Prop}{N id:Nat}{l:List Oper}{c2:Go.Code}{e e0:Env}{L0:List AO}{ks:List Nat}(h:AWP C c2 Q {env:=e,L:=L0})(hP:C.P=P:=by assumption)(hN:C.N=N:=by assumption)(hd:dB N l=true:=by exact rfl)(hr:∀ K:St→Prop,K {env:=e0,L:=L0}→RG P l l s [] (λs' _=>gl K Q .normal s'):=by(intro _ h;(repeat refine Vo ?_);exact ah h))(hX:KX ks:=by assumption)(he:d5 e0 ks=e:=by(simp only[zP,d5,iw,iY,reduceCtorEq,ad,J];exact rfl)):AWP C (.seq (.region id l.toArray false) c2) Q s:=aa λK hK=>am hP hN hd (hr K (hK _ (dF (ks:=ks) (by rw[he];exact h))))
theorem Jq {C:Ctx}{Q:Go.Exit→St→Prop}{N id:Nat}{l:List Oper}(hP:C.P=P:=by assumption)(hN:C.N=N:=by assumption)(hd:dB N l=true:=by exact rfl)(hr:Q .normal s'→RG P l l s [] (λs' _=>Q .normal s'):=by(intro h;(repeat refine D9 ?_);exact ah h))(h:Q .normal s'):AWP C (.region id l.toArray false) Q s:=am hP hN hd (hr h)
theorem lA {C:Ctx}{Q:Go.Exit→St→Prop}{N id:Nat}{l:List Oper}{c2:Go.Code}{e e0:Env}{L0:List AO}{ks:List Nat}(h:AWP C c2 Q {env:=e,L:=L0})(hP:C.P=P:=by assumption)(hN:C.N=N:=by assumption)(hd:dB N l=true:=by exact rfl)(hr:∀ K:St→Prop,K {env:=e0,L:=L0}→RG P l l s [] (λs' _=>gl K Q .normal s'):=by(intro _ h;(repeat refine D9 ?_);exact ah h))(hX:KX ks:=by assumption)(he:d5 e0 ks=e:=by(simp only[zP,d5,iw,iY,reduceCtorEq,ad,J];exact rfl)):AWP C (.seq (.region id l.toArray false) c2) Q s:=aa λK hK=>am hP hN hd (hr K (hK _ (dF (ks:=ks) (by rw[he];exact h))))
theorem Vm {A:Prop}{C:Ctx}{Q:Go.Exit→St→Prop}{N id:Nat}{l:List Oper}(e:A)(hP:C.P=P:=by assumption)(hN:C.N=N:=by assumption)(hd:dB N l=true:=by exact rfl)(hr:A→Q .normal s'→RG P l l s [] (λs' _=>Q .normal s'):=by(intro e h;(repeat refine J2 e ?_);exact ah h))(h:Q .normal s'):AWP C (.region id l.toArray false) Q s:=am hP hN hd (hr e h)
theorem HB {A:Prop}{C:Ctx}{Q:Go.Exit→St→Prop}{N id:Nat}{l:List Oper}{c2:Go.Code}{e e0:Env}{L0:List AO}{ks:List Nat}(z:A)(h:AWP C c2 Q {env:=e,L:=L0})(hP:C.P=P:=by assumption)(hN:C.N=N:=by assumption)(hd:dB N l=true:=by exact rfl)(hr:A→∀ K:St→Prop,K {env:=e0,L:=L0}→RG P l l s [] (λs' _=>gl K Q .normal s'):=by(intro e _ h;(repeat refine J2 e ?_);exact ah h))(hX:KX ks:=by assumption)(he:d5 e0 ks=e:=by(simp only[zP,d5,iw,iY,reduceCtorEq,ad,J];exact rfl)):AWP C (.seq (.region id l.toArray false) c2) Q s:=aa λK hK=>am hP hN hd (hr z K (hK _ (dF (ks:=ks) (by rw[he];exact h))))
theorem HC {A:Prop}{C:Ctx}{Q:Go.Exit→St→Prop}{N id:Nat}{l:List Oper}(e:A)(hP:C.P=P:=by assumption)(hN:C.N=N:=by assumption)(hd:dB N l=true:=by exact rfl)(hr:A→Q .normal s'→RG P l l s [] (λs' _=>Q .normal s'):=by(intro e h;(repeat refine Mo e ?_);exact ah h))(h:Q .normal s'):AWP C (.region id l.toArray false) Q s:=am hP hN hd (hr e h)
theorem Vg {A:Prop}{C:Ctx}{Q:Go.Exit→St→Prop}{N id:Nat}{l:List Oper}{c2:Go.Code}{e e0:Env}{L0:List AO}{ks:List Nat}(z:A)(h:AWP C c2 Q {env:=e,L:=L0})(hP:C.P=P:=by assumption)(hN:C.N=N:=by assumption)(hd:dB N l=true:=by exact rfl)(hr:A→∀ K:St→Prop,K {env:=e0,L:=L0}→RG P l l s [] (λs' _=>gl K Q .normal s'):=by(intro e _ h;(repeat refine Mo e ?_);exact ah h))(hX:KX ks:=by assumption)(he:d5 e0 ks=e:=by(simp only[zP,d5,iw,iY,reduceCtorEq,ad,J];exact rfl)):AWP C (.seq (.region id l.toArray false) c2) Q s:=aa λK hK=>am hP hN hd (hr z K (hK _ (dF (ks:=ks) (by rw[he];exact h))))
theorem MY {C:Ctx}{Q:Go.Exit→St→Prop}{N id:Nat}{l:List Oper}(hP:C.P=P:=by assumption)(hN:C.N=N:=by assumption)(hd:dB N l=true:=by exact rfl)(hr:Q .normal s'→RG P l l s [] (λs' _=>Q .normal s'):=by(intro h;(repeat refine qx ?_);exact ah h))(h:Q .normal s'):AWP C (.region id l.toArray false) Q s:=am hP hN hd (hr h)
theorem vv {C:Ctx}{Q:Go.Exit→St→Prop}{N id:Nat}{l:List Oper}{c2:Go.Code}{e e0:Env}{L0:List AO}{ks:List Nat}(h:AWP C c2 Q {env:=e,L:=L0})(hP:C.P=P:=by assumption)(hN:C.N=N:=by assumption)(hd:dB N l=true:=by exact rfl)(hr:∀ K:St→Prop,K {env:=e0,L:=L0}→RG P l l s [] (λs' _=>gl K Q .normal s'):=by(intro _ h;(repeat refine qx ?_);exact ah h))(hX:KX ks:=by assumption)(he:d5 e0 ks=e:=by(simp only[zP,d5,iw,iY,reduceCtorEq,ad,J];exact rfl)):AWP C (.seq (.region id l.toArray false) c2) Q s:=aa λK hK=>am hP hN hd (hr K (hK _ (dF (ks:=ks) (by rw[he];exact h))))
theorem cB {C:Ctx}{Q:Go.Exit→St→Prop}{c:Operand}{x y:Go.Code}{b:Bool}{e0:Env}{L0:List AO}{p q:Prop}(ht:p→AWP C x Q {env:=e0,L:=L0})(hf:q→AWP C y Q {env:=e0,L:=L0})(hc:ev e0 c= .one (.bool b):=by(simp only[ev,zP,ad,J];exact rfl))(hp:(b=true)=p:=by((try simp only[zB,reduceCtorEq]);exact rfl))(hq:(b=false)=q:=by((try simp only[zB,reduceCtorEq]);exact rfl)):AWP C (.cond c x y) Q {env:=e0,L:=L0}:=ox hc (λh=>ht (hp▸h)) (λh=>hf (hq▸h))
theorem zX {p q:Prop}(h:p)(e:p→q:=by(intro h;exfalso;first|(cases h;done)|omega|(simp at h;done)|(simp_all;done))):q:=e h
theorem zQ {f:FuncId}{fn:Func}{c:Go.Code}{args:List AV}{r:AV}{e:Env}(n:Nat)(hf:P.funcs[f]? =some fn)(h:∀ C,C.P=P→C.N=n→C.bL=[]→AWP C c (qZ P fn λs' v=>VLE (fzV s'.L v) r) {env:=e,L:=[]})(hb:fn.body=some c:=by exact rfl)(hm:(fn.name == "runtime.NumGoroutine")=false:=by kernel_rfl)(hN:fn.ntmps=n:=by exact rfl)(hn:args.length≤fn.ntmps:=by exact Nat.le_of_ble_eq_true rfl)(hp:args.all iK=true:=by exact rfl)(he:cm 0 args=e:=by(simp only[cm,J];exact rfl)):aY P f args r:=jn hf hb hm hn hp λC h1 h2 h3=>by rw[he];exact h C h1 (h2.trans hN) h3
theorem zK {env env':Env}{r0:Nat}{b want y:Bool}{L L':List AO}{tr1 tr2:Tr}(hq:b=want)(h1:lkp env' r0= .one (.bool y):=by(simp only[zP,ad,J];exact rfl))(h2:L'=L:=by exact rfl)(h3:b=want→∀ k,fE env k=true→lkp env k=lkp env' k:=by(intro hq;(repeat refine FT rfl ?_);exact Ro ξ hq))(h4:tr2=tr1:=by exact rfl):lkp env' r0= .one (.bool y)∧L'=L∧(∀ k,fE env k=true→lkp env k=lkp env' k)∧tr2=tr1:=⟨h1,h2,h3 hq,h4⟩
theorem zZn {fn:Func}{e:Go.Exit}{v v' r:AV}(h:v'=r)(hv:w5 P s fn.results.toList=some v:=by exact rfl)(hz:fzV s.L v=v':=by((try simp only[zF,zP,ad,J]);exact rfl))(hn:e= .normal∨e= .ret:=by first|exact .inl rfl|exact .inr rfl):qZ P fn (λs' v=>VLE (fzV s'.L v) r) e s:=⟨hn,v,hv,VLE.of_eq (hz.trans h)⟩
theorem zZm {fn:Func}{e:Go.Exit}{v v' r:AV}(h:v'=r)(hv:w5 P s fn.results.toList=some v:=by exact rfl)(hz:fzV s.L v=v':=by((try simp only[zF,zP,ad,J,Mly.av]);exact rfl))(hn:e= .normal∨e= .ret:=by first|exact .inl rfl|exact .inr rfl):qZ P fn (λs' v=>VLE (fzV s'.L v) r) e s:=⟨hn,v,hv,VLE.of_eq (hz.trans h)⟩
theorem zJ {l:List Oper}{r:Nat}{b y:Bool}{tr1:Tr}{po:Oper}{cx cy:Operand}(want:Bool)(n m:Nat)(h1:b=want→RG P ops (l.take n++[po]) {env:=(m,.one (.bool want))::s.env,L:=s.L} tr λs' tr'=>lkp s'.env r= .one (.bool y)∧s'.L=s.L∧(∀ k,fE s.env k=true→lkp s.env k=lkp s'.env k)∧tr'=tr1)(htr:TLE (tr++List.replicate ((l.take n).length+1) ([],[],0)) tr1)(h2:RG P ops rest {env:=(r,.one (.bool (if b=want then y else !want)))::s.env,L:=s.L} tr1 K)(hl:l.drop n=po::rest:=by exact rfl)(hb:lkp s.env m= .one (.bool b):=by(simp only[zP,ad,J];exact rfl))(hsk:p9 ops m want [] (l.take n)=true:=by kernel_rfl)(hkeys:AJ s.env (l.take n++[po])=true:=by exact rfl)(hpd:po.dst=some r:=by exact rfl)(hpg:gval ops s.env po=some true:=by exact rfl)(hpo:po.op= .pick (.tmp m) cx cy:=by exact rfl)(hconst:(if want then cy else cx)= .const (.bool !want):=by exact rfl):RG P ops l s tr K:=FX n hl hb hsk hkeys hpd hpg hpo hconst h1 htr h2
end
def Mof (d:Int×(Int×(List (List Int)×(List (List Int)×Unit)))):Mly:=⟨d.1,d.2.1,d.2.2.1,d.2.2.2.1⟩
theorem jP:aY Tryz.prog 12 [] (br.av):=by
 refine zQ 8 Tryz.func12 λC hP hN hB=>?_;have hX:KX [0]:=⟨trivial⟩
 refine zT0 ?_;refine zT0 ?_;refine aA ?_;refine⟨nr,_,rfl,?_⟩;simp only[zF,zP,ad,J,Mly.av,br];refine VLE.of_eq ?_
 rfl
theorem QR:cS Tryz.prog [] 12 [] {av:=.agg [.int .i64 2,.int .i64 0,.rwc 2 0,.list Γ [[1,0],[1,2]]],new:=[.vars 24 [.int .i64 2,.int .i64 0,.rwc 2 0,.list Γ [[1,0],[1,2]]],.row Θ 3 0 [1,0],.rowc 26 1 0 [.list Θ [1,0],.row 1 0]],fp:=[]}:=by
 refine fl _ _ Tryz.func12 rfl ζ (Nat.le_of_ble_eq_true rfl) (by intro k hk;simp only[ax,aF,Nat.zero_add,J] at hk;simp only[List.mem_cons,List.not_mem_nil,or_false];omega) (λC hP hN hB=>?_);have hX:KX [0]:=⟨trivial⟩
 replace hB:C.bL.length=0:=by rw[hB];rfl
 replace hN:C.N=8:=hN;simp only[cm,J];refine zT2 ?_;refine aa λK2 k2=>am hP hN rfl ?_;refine zS3 ?_;refine zS4 ?_
 iterate 6 refine zS3 ?_
 refine ah (k2 _ (kx ?_));refine aA ?_;refine⟨by first|exact .inl rfl|exact .inr rfl,_,rfl,?_⟩;simp only[zP,ad,J]
 rfl
theorem fu (m:Mly):aY Tryz.prog 16 [m.av] (.one (.int .i64 (aK m))):=by
 refine zQ 104 Tryz.func16 λC hP hN hB=>?_;have hX:KX [0,1,2,3,4,5,6,7,11,20,23,26,36,42,43,44,65,67,68,69,101]:=⟨trivial⟩
 refine zT5 ?_;refine zT5 ?_;refine aa λ_ k3=>?_;refine ay ?_;refine aa λK4 k4=>am hP hN rfl ?_
 iterate 4 refine zS6 ?_
 refine' zJ false 3 15 (λhg5=>?a5) ?b5 ?c5
 case a5=>
  have hq5:=hg5;(try simp only[zB,reduceCtorEq] at hg5);simp only[zE]
  iterate 3 refine zD7 ?_
  refine zS6 ?_;refine ah ?_;exact zK hq5
 case b5=>exact cF
 simp only[bh,aX];refine zS6 ?_;refine ah (k4 _ (kx ?_));refine cB (λhc6=>?_) (λhc6=>?_)
 ·refine zT5 ?_
  refine aA ?_;refine zZm ?_;refine congrArg (λn=>AV.one (AC.int IntKind.i64 n)) ?_
  symm
  unfold aK
  first
  |(rw[if_pos ω];done)
  |(rw[if_neg ω,if_pos ω];done)
  |(rw[if_neg ω,if_neg ω,if_pos ω];done)
  |(rw[if_neg ω,if_neg ω,if_neg ω,if_pos ω];done)
  |(rw[if_neg ω,if_neg ω,if_neg ω,if_neg ω,if_pos ω];done)
  |(rw[if_neg ω,if_neg ω,if_neg ω,if_neg ω,if_neg ω]
    first
    |exact(bC hrows ω (by rw[dE hc32.1 hc32.2 (j:=j) ω (by unfold cO;omega)];decide)).trans (dE hc32.1 hc32.2 ω (by unfold cO;omega))
    |exact(bC hrows ω (by rw[dA hc32];decide)).trans (dA hc32)
    |exact bH λi hi=>hrows i ω)
 refine zT5 ?_;refine cB (λhc9=>?_) (λhc9=>?_)
 ·refine zT5 ?_
  refine aA ?_;refine zZm ?_;refine congrArg (λn=>AV.one (AC.int IntKind.i64 n)) ?_
  symm
  unfold aK
  first
  |(rw[if_pos ω];done)
  |(rw[if_neg ω,if_pos ω];done)
  |(rw[if_neg ω,if_neg ω,if_pos ω];done)
  |(rw[if_neg ω,if_neg ω,if_neg ω,if_pos ω];done)
  |(rw[if_neg ω,if_neg ω,if_neg ω,if_neg ω,if_pos ω];done)
  |(rw[if_neg ω,if_neg ω,if_neg ω,if_neg ω,if_neg ω]
    first
    |exact(bC hrows ω (by rw[dE hc32.1 hc32.2 (j:=j) ω (by unfold cO;omega)];decide)).trans (dE hc32.1 hc32.2 ω (by unfold cO;omega))
    |exact(bC hrows ω (by rw[dA hc32];decide)).trans (dA hc32)
    |exact bH λi hi=>hrows i ω)
 refine zT5 ?_;refine cB (λhc12=>?_) (λhc12=>?_)
 ·refine zT5 ?_
  refine aA ?_;refine zZm ?_;refine congrArg (λn=>AV.one (AC.int IntKind.i64 n)) ?_
  symm
  unfold aK
  first
  |(rw[if_pos ω];done)
  |(rw[if_neg ω,if_pos ω];done)
  |(rw[if_neg ω,if_neg ω,if_pos ω];done)
  |(rw[if_neg ω,if_neg ω,if_neg ω,if_pos ω];done)
  |(rw[if_neg ω,if_neg ω,if_neg ω,if_neg ω,if_pos ω];done)
  |(rw[if_neg ω,if_neg ω,if_neg ω,if_neg ω,if_neg ω]
    first
    |exact(bC hrows ω (by rw[dE hc32.1 hc32.2 (j:=j) ω (by unfold cO;omega)];decide)).trans (dE hc32.1 hc32.2 ω (by unfold cO;omega))
    |exact(bC hrows ω (by rw[dA hc32];decide)).trans (dA hc32)
    |exact bH λi hi=>hrows i ω)
 refine aa λK14 k14=>am hP hN rfl ?_
 iterate 4 refine zS6 ?_
 refine' zJ false 4 30 (λhg15=>?a15) ?b15 ?c15
 case a15=>
  have hq15:=hg15;(try simp only[zB,reduceCtorEq] at hg15);simp only[zE]
  iterate 4 refine zD7 ?_
  refine zS6 ?_;refine ah ?_;exact zK hq15
 case b15=>exact cF
 simp only[bh,aX];refine zS6 ?_;refine ah (k14 _ (kx ?_));refine cB (λhc16=>?_) (λhc16=>?_)
 ·refine zT5 ?_
  refine aA ?_;refine zZm ?_;refine congrArg (λn=>AV.one (AC.int IntKind.i64 n)) ?_
  symm
  unfold aK
  first
  |(rw[if_pos ω];done)
  |(rw[if_neg ω,if_pos ω];done)
  |(rw[if_neg ω,if_neg ω,if_pos ω];done)
  |(rw[if_neg ω,if_neg ω,if_neg ω,if_pos ω];done)
  |(rw[if_neg ω,if_neg ω,if_neg ω,if_neg ω,if_pos ω];done)
  |(rw[if_neg ω,if_neg ω,if_neg ω,if_neg ω,if_neg ω]
    first
    |exact(bC hrows ω (by rw[dE hc32.1 hc32.2 (j:=j) ω (by unfold cO;omega)];decide)).trans (dE hc32.1 hc32.2 ω (by unfold cO;omega))
    |exact(bC hrows ω (by rw[dA hc32];decide)).trans (dA hc32)
    |exact bH λi hi=>hrows i ω)
 refine zT5 ?_;refine cB (λhc19=>?_) (λhc19=>?_)
 ·refine zT5 ?_
  refine aA ?_;refine zZm ?_;refine congrArg (λn=>AV.one (AC.int IntKind.i64 n)) ?_
  symm
  unfold aK
  first
  |(rw[if_pos ω];done)
  |(rw[if_neg ω,if_pos ω];done)
  |(rw[if_neg ω,if_neg ω,if_pos ω];done)
  |(rw[if_neg ω,if_neg ω,if_neg ω,if_pos ω];done)
  |(rw[if_neg ω,if_neg ω,if_neg ω,if_neg ω,if_pos ω];done)
  |(rw[if_neg ω,if_neg ω,if_neg ω,if_neg ω,if_neg ω]
    first
    |exact(bC hrows ω (by rw[dE hc32.1 hc32.2 (j:=j) ω (by unfold cO;omega)];decide)).trans (dE hc32.1 hc32.2 ω (by unfold cO;omega))
    |exact(bC hrows ω (by rw[dA hc32];decide)).trans (dA hc32)
    |exact bH λi hi=>hrows i ω)
 refine au (k3 _ (kx ?_));refine aa λ_ k21=>?_;refine zT5 ?_;refine ay ?_;refine aM (λn23 s23=>∃ (k:Nat),(k≤m.nx.length)∧(∀ i,i<k→kN m i=0)∧n23=m.nx.length-k∧s23={env:=[(1,.one (.ptr 0 0 0 0)),(3,.one (.int .i64 (m.nx.length:Int))),(42,.one (.int .i64 (m.nx.length:Int))),(43,.one (.int .i64 (k:Int)))],L:=[.vars 24 [.int .i64 m.inp,.int .i64 m.st,.list Γ m.nx,.list Γ m.ot]]}) ?_ ?_
 ·exact⟨_,_,ar [1,3,42,43],0,Nat.zero_le _,λi hi=>by omega,rfl,rfl⟩
 rintro n23 s23 ⟨k,hk,hrows,rfl,rfl⟩;refine zT5 ?_;refine aa λ_ k25=>?_;refine cB (λhc26=>?_) (λhc26=>?_)
 ·refine au ?_
  refine k25 _ (kx ?_);refine aa λ_ k27=>?_;refine ay ?_;refine zT5 ?_;refine aa λ_ k29=>?_;refine aa λ_ k30=>?_;refine bz hP hN Tryz.mixed rfl ?_
  iterate 10 refine zS6 ?_
  refine' zJ false 9 55 (λhg31=>?a31) ?b31 ?c31
  case a31=>
   have hq31:=hg31;(try simp only[zB,reduceCtorEq] at hg31);simp only[zE]
   iterate 9 refine zD7 ?_
   refine zS6 ?_;refine ah ?_;exact zK hq31
  case b31=>exact cF
  simp only[bh,aX];refine ah ?_;refine⟨ζ,?_⟩;refine k30 _ (kx ?_);refine cB (λhc32=>?_) (λhc32=>?_)
  ·refine zT5 ?_
   refine aA ?_;refine zZm ?_;refine congrArg (λn=>AV.one (AC.int IntKind.i64 n)) ?_
   symm
   unfold aK
   first
   |(rw[if_pos ω];done)
   |(rw[if_neg ω,if_pos ω];done)
   |(rw[if_neg ω,if_neg ω,if_pos ω];done)
   |(rw[if_neg ω,if_neg ω,if_neg ω,if_pos ω];done)
   |(rw[if_neg ω,if_neg ω,if_neg ω,if_neg ω,if_pos ω];done)
   |(rw[if_neg ω,if_neg ω,if_neg ω,if_neg ω,if_neg ω]
     first
     |exact(bC hrows ω (by rw[dE hc32.1 hc32.2 (j:=j) ω (by unfold cO;omega)];decide)).trans (dE hc32.1 hc32.2 ω (by unfold cO;omega))
     |exact(bC hrows ω (by rw[dA hc32];decide)).trans (dA hc32)
     |exact bH λi hi=>hrows i ω)
  refine au (k29 _ (kx ?_));refine zT5 ?_;refine ay ?_;refine aM (λn35 s35=>∃ (j:Nat),((j:Int)≤m.inp)∧(∀ a,a<j→¬cO m k a)∧n35=m.inp.toNat-j∧s35={env:=[(1,.one (.ptr 0 0 0 0)),(3,.one (.int .i64 (m.nx.length:Int))),(4,.one (.int .i64 (k:Int))),(42,.one (.int .i64 (m.nx.length:Int))),(43,.one (.int .i64 (k:Int))),(67,.one (.int .i64 m.inp)),(68,.one (.int .i64 (j:Int)))],L:=[.vars 24 [.int .i64 m.inp,.int .i64 m.st,.list Γ m.nx,.list Γ m.ot]]}) ?_ ?_
  ·refine⟨_,_,ar [1,3,4,42,43,67,68],0,?_,λi hi=>by omega,rfl,rfl⟩;omega
  rintro n35 s35 ⟨j,hj,hcells,rfl,rfl⟩;refine zT5 ?_;refine aa λ_ k37=>?_;refine cB (λhc38=>?_) (λhc38=>?_)
  ·refine au ?_
   refine k37 _ (kx ?_);refine aa λ_ k39=>?_;refine ay ?_;refine zT5 ?_;refine aa λ_ k41=>?_;refine bz hP hN Tryz.mixed rfl ?_
   iterate 18 refine zS6 ?_
   refine ah ?_;refine⟨ζ,?_⟩;refine k41 _ (kx ?_);refine aa λK42 k42=>am hP hN rfl ?_
   iterate 3 refine zS6 ?_
   refine' zJ false 3 89 (λhg43=>?a43) ?b43 ?c43
   case a43=>
    have hq43:=hg43;(try simp only[zB,reduceCtorEq] at hg43);simp only[zE]
    iterate 3 refine zD7 ?_
    refine zS6 ?_;refine ah ?_;exact zK hq43
   case b43=>exact cF
   simp only[bh,aX];refine zS6 ?_;refine' zJ false 2 94 (λhg44=>?a44) ?b44 ?c44
   case a44=>
    have hq44:=hg44;(try simp only[zB,reduceCtorEq] at hg44);simp only[zE]
    iterate 2 refine zD7 ?_
    refine zS6 ?_;refine ah ?_;exact zK hq44
   case b44=>exact cF
   simp only[bh,aX];refine zS6 ?_;refine' zJ false 2 98 (λhg45=>?a45) ?b45 ?c45
   case a45=>
    have hq45:=hg45;(try simp only[zB,reduceCtorEq] at hg45);simp only[zE]
    iterate 2 refine zD7 ?_
    refine zS6 ?_;refine ah ?_;exact zK hq45
   case b45=>exact cF
   simp only[bh,aX];refine ah (k42 _ (kx ?_));refine cB (λhc46=>?_) (λhc46=>?_)
   ·refine zT5 ?_
    refine aA ?_;refine zZm ?_;refine congrArg (λn=>AV.one (AC.int IntKind.i64 n)) ?_
    symm
    unfold aK
    first
    |(rw[if_pos ω];done)
    |(rw[if_neg ω,if_pos ω];done)
    |(rw[if_neg ω,if_neg ω,if_pos ω];done)
    |(rw[if_neg ω,if_neg ω,if_neg ω,if_pos ω];done)
    |(rw[if_neg ω,if_neg ω,if_neg ω,if_neg ω,if_pos ω];done)
    |(rw[if_neg ω,if_neg ω,if_neg ω,if_neg ω,if_neg ω]
      first
      |exact(bC hrows ω (by rw[dE hc32.1 hc32.2 (j:=j) ω (by unfold cO;omega)];decide)).trans (dE hc32.1 hc32.2 ω (by unfold cO;omega))
      |exact(bC hrows ω (by rw[dA hc32];decide)).trans (dA hc32)
      |exact bH λi hi=>hrows i ω)
   refine au (k39 _ (kx ?_));refine zR5 (h:=?_);refine⟨_,_,?_,ar [1,3,4,42,43,67,68],j+1,?_,λa ha=>?_,rfl,rfl⟩
   ·omega
   ·omega
   ·by_cases e:a=j
    ·rw[e];unfold cO;omega
    ·exact hcells a ω
  refine aL ?_;refine k27 _ (kx ?_);refine zR5 (h:=?_);refine⟨_,_,?_,ar [1,3,42,43],k+1,ω,λi hi=>?_,rfl,rfl⟩
  ·omega
  ·by_cases e:i=k
   ·rw[e];exact Nk hc32.1 hc32.2 λa ha=>hcells a ω
   ·exact hrows i ω
 refine aL ?_;refine k21 _ (kx ?_);refine zT5 ?_;refine aA ?_;refine zZm ?_;refine congrArg (λn=>AV.one (AC.int IntKind.i64 n)) ?_
 symm
 unfold aK
 first
 |(rw[if_pos ω];done)
 |(rw[if_neg ω,if_pos ω];done)
 |(rw[if_neg ω,if_neg ω,if_pos ω];done)
 |(rw[if_neg ω,if_neg ω,if_neg ω,if_pos ω];done)
 |(rw[if_neg ω,if_neg ω,if_neg ω,if_neg ω,if_pos ω];done)
 |(rw[if_neg ω,if_neg ω,if_neg ω,if_neg ω,if_neg ω]
   first
   |exact(bC hrows ω (by rw[dE hc32.1 hc32.2 (j:=j) ω (by unfold cO;omega)];decide)).trans (dE hc32.1 hc32.2 ω (by unfold cO;omega))
   |exact(bC hrows ω (by rw[dA hc32];decide)).trans (dA hc32)
   |exact bH λi hi=>hrows i ω)
theorem L5 (a b:Mly):aY Tryz.prog 149 [a.av,b.av] (.one (.int .i64 (jI a b))):=by
 refine zQ 25 Tryz.func149 λC hP hN hB=>?_;have hX:KX [0,1,2,3,4,6,7,10,11,12,17,24]:=⟨trivial⟩
 refine zT5 ?_;refine aa λ_ k2=>?_;refine zT5 ?_;refine ay ?_;refine aM (λn4 s4=>∃ (k:Nat),(k≤2)∧(∀ q,q<k→aK (chm a b q)=0)∧n4=2-k∧s4={env:=[(2,.one (.ptr 0 0 0 0)),(3,.one (.ptr 1 0 0 0)),(4,.one (.int .i64 0)),(10,.agg [.int .i64 a.inp,.int .i64 a.st,.list Γ a.nx,.list Γ a.ot,.int .i64 b.inp,.int .i64 b.st,.list Γ b.nx,.list Γ b.ot]),(11,.one (.int .i64 (k:Int)))],L:=[.vars 24 [.int .i64 a.inp,.int .i64 a.st,.list Γ a.nx,.list Γ a.ot],.vars 24 [.int .i64 b.inp,.int .i64 b.st,.list Γ b.nx,.list Γ b.ot]]}) ?_ ?_
 ·refine⟨_,_,ar [2,3,4,10,11],0,ω,λq hq=>by omega,rfl,rfl⟩
 rintro n4 s4 ⟨k,hk,hq,rfl,rfl⟩;refine zT5 ?_;refine aa λ_ k6=>?_;refine cB (λhc7=>?_) (λhc7=>?_)
 ·refine au ?_
  refine k6 _ (kx ?_);refine aa λ_ k8=>?_;refine ay ?_;refine aa λ_ k9=>?_;have hch:=Fv a b (k:=k) ω;have hle:k*4+4≤8:=by omega
  refine am hP hN rfl ?_
  iterate 3 (refine aw rfl λ_ k0=>?_;simp only[zO,zT,acs,reduceCtorEq,ad,J,ae,aj,af,ag,Mly.av,hch,hle,if_true,ax,aF,Nat.zero_add];(repeat refine an ?_);(try refine .inl ?_);apply k0;clear k0;simp only[zP,J])
  refine ah (k9 _ (kx ?_));refine aa λK10 k10=>am hP hN rfl ?_;refine zS6 ?_;refine zC8 (ak (fu (chm a b k))) ?_;refine zS6 ?_;refine ah (k10 _ (kx ?_));refine zT5 ?_;refine cB (λhc12=>?_) (λhc12=>?_)
  ·refine zT5 ?_
   refine aA ?_;refine zZm ?_;refine congrArg (λn=>AV.one (AC.int IntKind.i64 n)) ?_;unfold jI
   first
   |(have h0:aK a=0:=hq 0 ω
     have h1:aK b=0:=hq 1 ω;rw[if_pos h0,if_pos h1]
     first|(rw[if_pos ω];done)|(rw[if_neg ω];done))
   |(rcases(show k=0∨k=1 by omega) with rfl|rfl
     ·rw[if_neg (by assumption)];rfl
     ·have h0:aK a=0:=hq 0 ω
      rw[if_pos h0,if_neg (by assumption)];rfl)
  refine au (k8 _ (kx ?_));refine fJ [2,3,4,10,11] ?_;simp only[dh,lkp,zE,reduceCtorEq,ad];refine jx (L1:=[_,_]) rfl hB rfl rfl ?_;refine zR5 (h:=?_);refine⟨_,_,?_,ar [2,3,4,10,11],k+1,ω,λq hq2=>?_,rfl,rfl⟩
  ·omega
  ·by_cases e:q=k
   ·rw[e];omega
   ·exact hq q ω
 refine aL ?_;refine k2 _ (kx ?_);refine aa λ_ k14=>?_;refine zT5 ?_;refine cB (λhc16=>?_) (λhc16=>?_)
 ·refine zT5 ?_
  refine aA ?_;refine zZm ?_;refine congrArg (λn=>AV.one (AC.int IntKind.i64 n)) ?_;unfold jI
  first
  |(have h0:aK a=0:=hq 0 ω
    have h1:aK b=0:=hq 1 ω;rw[if_pos h0,if_pos h1]
    first|(rw[if_pos ω];done)|(rw[if_neg ω];done))
  |(rcases(show k=0∨k=1 by omega) with rfl|rfl
    ·rw[if_neg (by assumption)];rfl
    ·have h0:aK a=0:=hq 0 ω
     rw[if_pos h0,if_neg (by assumption)];rfl)
 refine au (k14 _ (kx ?_));refine zT5 ?_;refine aA ?_;refine zZm ?_;refine congrArg (λn=>AV.one (AC.int IntKind.i64 n)) ?_;unfold jI
 first
 |(have h0:aK a=0:=hq 0 ω
   have h1:aK b=0:=hq 1 ω;rw[if_pos h0,if_pos h1]
   first|(rw[if_pos ω];done)|(rw[if_neg ω];done))
 |(rcases(show k=0∨k=1 by omega) with rfl|rfl
   ·rw[if_neg (by assumption)];rfl
   ·have h0:aK a=0:=hq 0 ω
    rw[if_pos h0,if_neg (by assumption)];rfl)
theorem QT (n:Int)(h0:0≤n)(h1:n≤1000000):gQ Tryz.prog 117 [.one .nils,.one (.int .i64 n)] Θ 3 (([]:List Int)):=by
 refine dW Tryz.func117 rfl ζ (Nat.le_of_ble_eq_true rfl) rfl λC hP hN hB=>?_;have hX:KX [0,1,4,6,16]:=⟨trivial⟩
 replace hN:C.N=27:=hN;simp only[cm,J];refine zT2 ?_;refine aa λ_ k2=>?_;refine zT2 ?_;refine cB (λhc4=>?_) (λhc4=>?_)
 ·exact zX hc4
 refine au (k2 _ (kx ?_));refine aa λ_ k5=>?_;refine zT2 ?_;refine zT2 ?_;refine cB (λhc8=>?_) (λhc8=>?_)
 ·refine am hP hN rfl ?_
  iterate 3 refine zS3 ?_
  (refine aw rfl λ_ k0=>?_;simp only[zE,op1,ev,lkp,cR,bP,cC,gm,ff,cY,dC,fa,Nat.div_one,cV,di,Ty.size,bq,dite_true,eZ,bnd,reduceCtorEq,ad,J,ae,aj,af,ag,Tryz.el26,Tryz.td26,Tryz.td3];(repeat refine an ?_);(try refine .inl ?_);apply k0;clear k0;simp only[zP,J])
  iterate 4 refine zS3 ?_
  (refine aw rfl λ_ k0=>?_;simp only[zE,op1,ev,lkp,cR,bP,cC,gm,ff,cY,dC,fa,Nat.div_one,cV,di,Ty.size,bq,dite_true,eZ,bnd,reduceCtorEq,ad,J,ae,aj,af,ag,Tryz.el26,Tryz.td26,Tryz.td3];(repeat refine an ?_);(try refine .inl ?_);apply k0;clear k0;simp only[zP,J])
  refine zS3 ?_;refine ah (k5 _ (kx ?_));refine aa λ_ k9=>?_
  first|(refine eC 0 Θ 3 δ rfl ?_;simp only[ax,aF,aG,aC,Nat.zero_add,J])|skip
  refine zR2 (h:=k9 _ (kx ?_));refine aA ?_;refine⟨by first|exact .inl rfl|exact .inr rfl,_,rfl,_,_,rfl,?_⟩
  first|rfl|simp
 refine au (k5 _ (kx ?_));refine aa λ_ k10=>?_
 first|(refine eC 0 Θ 3 δ rfl ?_;simp only[ax,aF,aG,aC,Nat.zero_add,J])|skip
 refine zR2 (h:=k10 _ (kx ?_));refine aA ?_;refine⟨by first|exact .inl rfl|exact .inr rfl,_,rfl,_,_,rfl,?_⟩
 first|rfl|simp
theorem Kq (ls:List (List Int))(hb:ls.flatten.length≤1000000):aY Tryz.prog 73 [.one (.list Γ ls)] (.one (.list Θ ls.flatten)):=by
 refine zQ 36 Tryz.func73 λC hP hN hB=>?_;have hX:KX [0,2,3,5,6,8,9,10,11,12,20,25,26,27,28]:=⟨trivial⟩
 refine fT 0 rfl λhf0=>?_;simp only[lkp,if_true,if_false,reduceCtorEq,ad,eq_self,Nat.one_ne_zero,Nat.zero_ne_one,lc,kD,kd,Fit,and_true,implies_true,true_and] at hf0;refine zT2 ?_;refine zT2 ?_;refine aa λ_ k3=>?_;refine zT2 ?_;refine ay ?_;refine aM (λn5 s5=>∃ (k:Nat),(k≤ls.length)∧n5=ls.length-k∧s5={env:=[(0,.one (.list Γ ls)),(3,.one (.int .i64 (((ls.take k).flatten.length:Nat):Int))),(9,.one (.list Γ ls)),(10,.one (.int .i64 (ls.length:Int))),(11,.one (.int .i64 (k:Int)))],L:=[]}) ?_ ?_
 ·exact⟨_,_,ar [0,3,9,10,11],0,Nat.zero_le _,rfl,rfl⟩
 rintro n5 s5 ⟨k,hk,rfl,rfl⟩;refine zT2 ?_;refine aa λ_ k7=>?_;refine cB (λhc8=>?_) (λhc8=>?_)
 ·refine au ?_
  refine k7 _ (kx ?_);refine aa λ_ k9=>?_;refine ay ?_;refine zT2 ?_;refine aa λ_ k11=>?_;have hfl:=li ls (k+1);have hfe:(ls.take (k+1)).flatten.length=(ls.take k).flatten.length+(ls.getD k []).length:=by rw[jB ls ω,aq]
  refine zR2 (h:=k11 _ (kx ?_));refine zT2 ?_;refine cB (λhc13=>?_) (λhc13=>?_)
  ·exact zX hc13
  refine au (k9 _ (kx ?_));refine zR2 (h:=?_);refine⟨_,_,?_,ar [0,3,9,10,11],k+1,ω,rfl,?_⟩
  ·omega
  ·rw[hfe];simp only[Int.natCast_add];rfl
 refine aL ?_;refine k3 _ (kx ?_);refine aa λ_ k14=>?_;have hfl:=li ls k;refine am hP hN rfl ?_;refine zS3 ?_;refine zC9 (gy (QT (((ls.take k).flatten.length:Nat):Int) ω ω)) ?_;refine zS3 ?_;refine ah (k14 _ (kx ?_));refine aa λ_ k15=>?_;refine zT2 ?_;refine ay ?_;refine aM (λn17 s17=>∃ (k:Nat) (v:Nat),(k≤ls.length)∧n17=ls.length-k∧s17={env:=[(6,.one (.row 0 v)),(25,.one (.list Γ ls)),(26,.one (.int .i64 (ls.length:Int))),(27,.one (.int .i64 (k:Int)))],L:=[.row Θ 3 v (ls.take k).flatten]}) ?_ ?_
 ·exact⟨_,_,ar [6,25,26,27],0,0,Nat.zero_le _,rfl,rfl⟩
 rintro n17 s17 ⟨k,v,hk,rfl,rfl⟩;refine zT2 ?_;refine aa λ_ k19=>?_;refine cB (λhc20=>?_) (λhc20=>?_)
 ·refine au ?_
  refine k19 _ (kx ?_);refine aa λ_ k21=>?_;refine ay ?_;refine zT2 ?_;have hfl:=li ls (k+1);have hfe:(ls.take (k+1)).flatten.length=(ls.take k).flatten.length+(ls.getD k []).length:=by rw[jB ls ω,aq]
  refine zR2 (h:=k21 _ (kx ?_));refine zR2 (h:=?_);refine⟨_,_,?_,ar [6,25,26,27],k+1,v+1,ω,rfl,?_⟩
  ·omega
  ·rw[jB ls ω];rfl
 refine aL ?_;refine k15 _ (kx ?_);refine zT2 ?_;refine aA ?_;refine zZn ?_;have htk:ls.take k=ls:=by rw[show k=ls.length by omega,aP]
 rw[htk]
theorem dP (ls:List (List Int))(hb:ls.flatten.length≤1000000):aY Tryz.prog 38 [.one (.list Γ ls)] (.one (.list Θ ls.flatten)):=by
 refine zQ 5 Tryz.func38 λC hP hN hB=>?_;have hX:KX [0,2]:=⟨trivial⟩
 refine zT2 ?_;refine aa λK2 k2=>am hP hN rfl ?_;refine zS3 ?_;refine zC9 (ak (Kq ls hb)) ?_;refine zS3 ?_;refine ah (k2 _ (kx ?_));refine aA ?_;refine zZn ?_
 rfl
theorem zz (a b:Mly)(s t:Int)(ha:MOK a)(hb:MOK b)(hi:a.inp=b.inp)(hs:0≤s∧s<a.nx.length)(ht:0≤t∧t<b.nx.length):aY Tryz.prog 78 [a.av,b.av,.agg [.int .i64 s,.int .i64 t]] (.tup [.one (.list Θ ((seS a b s t).getD [])),.one (.bool (seS a b s t).isSome)]):=by
 have hai1:=ha.i1;have hai2:=ha.i2;have han2:=ha.n2;have hbn2:=hb.n2;have hao:=ha.ol;have hbo:=hb.ol;have hfu:fuS a b=a.nx.length*b.nx.length+1:=rfl;refine zQ 144 Tryz.func78 λC hP hN hB=>?_;have hX:KX [0,1,2,3,4,5,6,7,8,9,10,11,12,13,14,20,21,22,46,55,56,57,77,120]:=⟨trivial⟩
 refine aa λK1 k1=>am hP hN rfl ?_
 iterate 5 (refine aw rfl λ_ k0=>?_;simp only[zO,zT,acs,reduceCtorEq,ad,J,ae,aj,af,ag,Mly.av,aE,aW,bp,bj,bg,aq,bU,bM,aB,aI];(repeat refine an ?_);(try refine .inl ?_);apply k0;clear k0;simp only[zP,J,List.append_assoc,bn,bc,bb])
 refine ah (k1 _ (kx ?_));refine aa λK2 k2=>am hP hN rfl ?_
 iterate 3 (refine aw rfl λ_ k0=>?_;simp only[zO,zT,acs,reduceCtorEq,ad,J,ae,aj,af,ag,Mly.av,aE,aW,bp,bj,bg,aq,bU,bM,aB,aI];(repeat refine an ?_);(try refine .inl ?_);apply k0;clear k0;simp only[zP,J,List.append_assoc,bn,bc,bb])
 (refine aw rfl λ_ k0=>?_;simp only[zE,op1,ev,lkp,cR,bP,cH,bq,Ty.size,Ty.dflt,reduceCtorEq,ad,J,ae,aj,af,ag,Tryz.el174,Tryz.td174,Mly.av,aE,aW,bp,bj,bg,aq,bU,bM,aB,aI];(repeat refine an ?_);refine Or.inr (Or.inl (k0 _ ?_));clear k0;simp only[zP,J,List.append_assoc,bn,bc,bb])
 (refine aw rfl λ_ k0=>?_;simp only[zO,zT,acs,reduceCtorEq,ad,J,ae,aj,af,ag,Mly.av,aE,aW,bp,bj,bg,aq,bU,bM,aB,aI];(repeat refine an ?_);(try refine .inl ?_);apply k0;clear k0;simp only[zP,J,List.append_assoc,bn,bc,bb])
 refine ah (k2 _ (kx ?_));refine aa λ_ k3=>?_;refine aa λK4 k4=>am hP hN rfl ?_
 iterate 3 (refine aw rfl λ_ k0=>?_;simp only[zO,zT,acs,reduceCtorEq,ad,J,ae,aj,af,ag,Mly.av,aE,aW,bp,bj,bg,aq,bU,bM,aB,aI];(repeat refine an ?_);(try refine .inl ?_);apply k0;clear k0;simp only[zP,J,List.append_assoc,bn,bc,bb])
 refine ah (k4 _ (kx ?_));refine ay ?_;refine aM (λn5 s5=>∃ (k:Nat),(k≤a.nx.length)∧n5=a.nx.length-k∧s5={env:=[(3,.one (.ptr 0 0 0 0)),(4,.one (.ptr 1 0 0 0)),(5,.one (.ptr 2 0 0 0)),(8,.one (.rwc 3 0)),(20,.one (.int .i64 (a.nx.length:Int))),(21,.one (.int .i64 (k:Int)))],L:=.vars 24 [.int .i64 a.inp,.int .i64 a.st,.list Γ a.nx,.list Γ a.ot]:: .vars 24 [.int .i64 b.inp,.int .i64 b.st,.list Γ b.nx,.list Γ b.ot]:: .vars 122 [.int .i64 s,.int .i64 t]:: .rowc 54 1 0 (kX (λi=>AC.row (i+1+1+1+1) 0) .nils a.nx.length k)::dH 4 (λ_=>List.replicate b.nx.length false) k}) ?_ ?_
 ·refine⟨_,_,ar [3,4,5,8,20,21],0,Nat.zero_le _,rfl,?_⟩
  rw[xv,← bM];rfl
 rintro n5 s5 ⟨k,hk,rfl,rfl⟩;refine aa λK6 k6=>am hP hN rfl ?_
 (refine aw rfl λ_ k0=>?_;simp only[zO,zT,acs,reduceCtorEq,ad,J,ae,aj,af,ag,Mly.av,aE,aW,bp,bj,bg,aq,bU,bM,aB,aI];(repeat refine an ?_);(try refine .inl ?_);apply k0;clear k0;simp only[zP,J,List.append_assoc,bn,bc,bb])
 refine ah (k6 _ (kx ?_));refine aa λ_ k7=>?_;refine cB (λhc8=>?_) (λhc8=>?_)
 ·refine au ?_
  refine k7 _ (kx ?_);refine aa λ_ k9=>?_;refine ay ?_;refine aa λK10 k10=>am hP hN rfl ?_
  iterate 2 (refine aw rfl λ_ k0=>?_;simp only[zO,zT,acs,reduceCtorEq,ad,J,ae,aj,af,ag,Mly.av,aE,aW,bp,bj,bg,aq,bU,bM,aB,aI];(repeat refine an ?_);(try refine .inl ?_);apply k0;clear k0;simp only[zP,J,List.append_assoc,bn,bc,bb])
  refine ah (k10 _ (kx ?_));have hsf:=yA (λi=>AC.row (i+1+1+1+1) 0) .nils (n:=a.nx.length) (k:=k) ω;have hw:∀ c,cg (kX (λi=>AC.row (i+1+1+1+1) 0) .nils a.nx.length k) k [c]=(kX (λi=>AC.row (i+1+1+1+1) 0) .nils a.nx.length k).set k c:=λc=>C4 ω;refine am hP hN rfl ?_
  iterate 5 (refine aw rfl λ_ k0=>?_;simp only[zE,op1,ev,lkp,cR,bP,cq,dR,Nat.mul_one,bZ,cT,acs,Ty.dflt,zG,cK,cC,gm,ff,cY,dC,fa,Nat.div_one,cV,di,Ty.size,bq,dite_true,reduceCtorEq,ad,J,ae,aj,af,ag,Tryz.el174,Tryz.el22,Tryz.st24,Tryz.td174,Tryz.td2,Tryz.td22,Tryz.td24,Tryz.td3,Mly.av,aE,aW,bp,bj,bg,aq,bU,bM,aB,aI,hsf,hw];(repeat refine an ?_);(try refine .inl ?_);apply k0;clear k0;simp only[zP,J,List.append_assoc,bn,bc,bb])
  (refine aw rfl λ_ k0=>?_;simp only[zE,op1,ev,lkp,cR,bP,cq,dR,Nat.mul_one,bZ,cT,acs,Ty.dflt,zG,cK,cC,gm,ff,cY,dC,fa,Nat.div_one,cV,di,Ty.size,bq,dite_true,cH,dq,ne_eq,not_false_eq_true,Int.natCast_one,Int.mul_one,fo,cG,reduceCtorEq,ad,J,ae,aj,af,ag,Tryz.el174,Tryz.el22,Tryz.el54,Tryz.st24,Tryz.td174,Tryz.td2,Tryz.td22,Tryz.td24,Tryz.td3,Tryz.td54,Mly.av,aE,aW,bp,bj,bg,aq,bU,bM,aB,aI,hsf,hw];(repeat refine an ?_);(try refine .inl ?_);apply k0;clear k0;simp only[zP,J,List.append_assoc,bn,bc,bb])
  iterate 2 (refine aw rfl λ_ k0=>?_;simp only[zE,op1,ev,lkp,cR,bP,dq,zG,Ty.dflt,Ty.size,Nat.mul_one,ne_eq,not_false_eq_true,Int.natCast_one,Int.mul_one,fo,cG,bq,acs,reduceCtorEq,ad,J,ae,aj,af,ag,Tryz.el174,Tryz.el54,Tryz.td174,Tryz.td54,Mly.av,aE,aW,bp,bj,bg,aq,bU,bM,aB,aI,hsf,hw];(repeat refine an ?_);(try refine .inl ?_);apply k0;clear k0;simp only[zP,J,List.append_assoc,bn,bc,bb])
  refine ah (k9 _ (kx ?_));refine am hP hN rfl ?_
  iterate 2 (refine aw rfl λ_ k0=>?_;simp only[zO,zT,acs,reduceCtorEq,ad,J,ae,aj,af,ag,Mly.av,aE,aW,bp,bj,bg,aq,bU,bM,aB,aI];(repeat refine an ?_);(try refine .inl ?_);apply k0;clear k0;simp only[zP,J,List.append_assoc,bn,bc,bb])
  refine ah ?_;refine⟨_,_,?_,ar [3,4,5,8,20,21],k+1,ω,rfl,?_⟩
  ·omega
  ·rw[← lB _ _ ω,CA];rfl
 refine aL ?_;refine k3 _ (kx ?_);refine aa λ_ k11=>?_;have hkn:k=a.nx.length:=ω;subst hkn;rw[zv];have hg0:=D4 (n:=a.nx.length) (i:=s.toNat) ω;have hr0:=Ei (e:=4) (f:=λ_=>List.replicate b.nx.length false) (n:=a.nx.length) (i:=s.toNat) ω;have hst:(dH 4 (λ_=>List.replicate b.nx.length false) a.nx.length).set s.toNat (.row .bool 4 0 ((List.replicate b.nx.length false).set t.toNat true))=dH 4 (snS [(s,t,[])] b.nx.length) a.nx.length:=qY ω (by rw[DY b.nx.length s.toNat];exact EB (l:=[]) hs.1 ht) (λj hj hne=>by rw[DY b.nx.length j];exact wA (l:=[]) hs.1 hne);rw[show(List.range a.nx.length).map (λi=>AC.row (i+1+1+1+1) 0)=gcs a.nx.length from rfl];refine bz hP hN Tryz.mixed rfl ?_
 iterate 9 (refine aw rfl λ_ k0=>?_;simp only[zO,zT,acs,reduceCtorEq,ad,J,ae,aj,af,ag,Mly.av,aE,aW,bp,bj,bg,aq,bU,bM,aB,aI,hg0,hr0,aB];(repeat refine an ?_);(try refine .inl ?_);apply k0;clear k0;simp only[zP,J,List.append_assoc,bn,bc,bb,hst])
 refine ah ?_;refine⟨ζ,?_⟩;refine k11 _ (kx ?_);refine aa λK12 k12=>am hP hN rfl ?_
 iterate 2 (refine aw rfl λ_ k0=>?_;simp only[zO,zT,acs,reduceCtorEq,ad,J,ae,aj,af,ag,Mly.av,aE,aW,bp,bj,bg,aq,bU,bM,aB,aI];(repeat refine an ?_);(try refine .inl ?_);apply k0;clear k0;simp only[zP,J,List.append_assoc,bn,bc,bb])
 (refine aw rfl λ_ k0=>?_;simp only[zO,zT,acs,reduceCtorEq,ad,J,ae,aj,af,ag,Mly.av,aE,aW,bp,bj,bg,aq,bU,bM,aB,aI];(repeat refine an ?_);refine Or.inr (Or.inl (k0 _ ?_));clear k0;simp only[zP,J,List.append_assoc,bn,bc,bb])
 (refine aw rfl λ_ k0=>?_;simp only[zO,zT,acs,reduceCtorEq,ad,J,ae,aj,af,ag,Mly.av,aE,aW,bp,bj,bg,aq,bU,bM,aB,aI];(repeat refine an ?_);(try refine .inl ?_);apply k0;clear k0;simp only[zP,J,List.append_assoc,bn,bc,bb])
 refine ah (k12 _ (kx ?_));refine aa λ_ k13=>?_;refine aa λK14 k14=>am hP hN rfl ?_
 (refine aw rfl λ_ k0=>?_;simp only[zO,zT,acs,reduceCtorEq,ad,J,ae,aj,af,ag,Mly.av,aE,aW,bp,bj,bg,aq,bU,bM,aB,aI];(repeat refine an ?_);(try refine .inl ?_);apply k0;clear k0;simp only[zP,J,List.append_assoc,bn,bc,bb])
 refine ah (k14 _ (kx ?_));refine ay ?_;refine aM (λn15 s15=>∃ (i:Nat) (l:List S3) (v:Nat),(WFS a b l)∧(srS a b (fuS a b-i) i l=seS a b s t)∧(i≤l.length)∧n15=fuS a b-i∧s15={env:=[(3,.one (.ptr 0 0 0 0)),(4,.one (.ptr 1 0 0 0)),(8,.one (.rwc 3 0)),(10,.one (.row (a.nx.length+1+1+1+1) v)),(11,.one (.int .i64 (i:Int)))],L:=.vars 24 [.int .i64 a.inp,.int .i64 a.st,.list Γ a.nx,.list Γ a.ot]:: .vars 24 [.int .i64 b.inp,.int .i64 b.st,.list Γ b.nx,.list Γ b.ot]:: .vars 122 [.int .i64 s,.int .i64 t]:: .rowc 54 1 0 (gcs a.nx.length)::(dH 4 (snS l b.nx.length) a.nx.length++[.row (.pair (.pair Θ (.pair Θ (.unit))) (.pair Γ (.unit))) 176 v (List.map Ix l)])}) ?_ ?_
 ·refine⟨_,_,ar [3,4,8,10,11],0,[(s,t,[])],0,xd hs ht,rfl,Nat.zero_le _,rfl,rfl⟩
 rintro n15 s15 ⟨i,l,v,hwf,hsr,hil0,rfl,rfl⟩;refine aa λ_ k16=>?_;refine aa λK17 k17=>am hP hN rfl ?_
 iterate 4 (refine aw rfl λ_ k0=>?_;simp only[zO,zT,acs,reduceCtorEq,ad,J,ae,aj,af,ag,Mly.av,aE,aW,bp,bj,bg,aq,bU,bM,aB,aI];(repeat refine an ?_);(try refine .inl ?_);apply k0;clear k0;simp only[zP,J,List.append_assoc,bn,bc,bb])
 refine ah (k17 _ (kx ?_));refine cB (λhc18=>?_) (λhc18=>?_)
 ·refine au ?_
  refine k16 _ (kx ?_);refine aa λ_ k19=>?_;refine ay ?_;refine aa λ_ k20=>?_;have hil:i<l.length:=ω;have hgi:∀ d,(List.map Ix l).getD i d=(((l.getD i eS0).1,((l.getD i eS0).2.1,())),((l.getD i eS0).2.2,())):=λd=>by rw[xc eS0 d ω];rfl
  refine am hP hN rfl ?_
  iterate 7 (refine aw rfl λ_ k0=>?_;simp only[zO,zT,acs,reduceCtorEq,ad,J,ae,aj,af,ag,Mly.av,aE,aW,bp,bj,bg,aq,bU,bM,aB,aI,hgi];(repeat refine an ?_);(try refine .inl ?_);apply k0;clear k0;simp only[zP,J,List.append_assoc,bn,bc,bb])
  refine ah (k20 _ (kx ?_));refine aa λK21 k21=>am hP hN rfl ?_
  iterate 3 (refine aw rfl λ_ k0=>?_;simp only[zO,zT,acs,reduceCtorEq,ad,J,ae,aj,af,ag,Mly.av,aE,aW,bp,bj,bg,aq,bU,bM,aB,aI];(repeat refine an ?_);(try refine .inl ?_);apply k0;clear k0;simp only[zP,J,List.append_assoc,bn,bc,bb])
  refine ah (k21 _ (kx ?_));refine ay ?_;refine aM (λn22 s22=>∃ (x:Nat) (v2:Nat),((x:Int)≤a.inp)∧(∀ y,y<x→jy a b (l.getD i eS0) y=false)∧(WFS a b (dZ a b (l.getD i eS0) l x))∧n22=a.inp.toNat-x∧s22={env:=[(3,.one (.ptr 0 0 0 0)),(4,.one (.ptr 1 0 0 0)),(8,.one (.rwc 3 0)),(10,.one (.row (a.nx.length+1+1+1+1) v2)),(11,.one (.int .i64 (i:Int))),(12,.one (.ptr (a.nx.length+1+1+1+1+1) 0 0 0)),(55,.one (.int .i64 a.inp)),(56,.one (.int .i64 (x:Int)))],L:=.vars 24 [.int .i64 a.inp,.int .i64 a.st,.list Γ a.nx,.list Γ a.ot]:: .vars 24 [.int .i64 b.inp,.int .i64 b.st,.list Γ b.nx,.list Γ b.ot]:: .vars 122 [.int .i64 s,.int .i64 t]:: .rowc 54 1 0 (gcs a.nx.length)::(dH 4 (snS (dZ a b (l.getD i eS0) l x) b.nx.length) a.nx.length++[.row (.pair (.pair Θ (.pair Θ (.unit))) (.pair Γ (.unit))) 176 v2 (List.map Ix (dZ a b (l.getD i eS0) l x)),.vars 122 [.int .i64 (l.getD i eS0).1,.int .i64 (l.getD i eS0).2.1]])}) ?_ ?_
  ·exact⟨_,_,ar [3,4,8,10,11,12,55,56],0,v,ω,λy hy=>by omega,hwf,rfl,rfl⟩
  rintro n22 s22 ⟨x,v2,hx,hdf,hwr,rfl,rfl⟩;refine aa λK23 k23=>am hP hN rfl ?_
  (refine aw rfl λ_ k0=>?_;simp only[zO,zT,acs,reduceCtorEq,ad,J,ae,aj,af,ag,Mly.av,aE,aW,bp,bj,bg,aq,bU,bM,aB,aI];(repeat refine an ?_);(try refine .inl ?_);apply k0;clear k0;simp only[zP,J,List.append_assoc,bn,bc,bb])
  refine ah (k23 _ (kx ?_));refine aa λ_ k24=>?_;refine cB (λhc25=>?_) (λhc25=>?_)
  ·refine au ?_
   refine k24 _ (kx ?_);refine aa λ_ k26=>?_;refine ay ?_;refine aa λK27 k27=>am hP hN rfl ?_
   iterate 2 (refine aw rfl λ_ k0=>?_;simp only[zO,zT,acs,reduceCtorEq,ad,J,ae,aj,af,ag,Mly.av,aE,aW,bp,bj,bg,aq,bU,bM,aB,aI];(repeat refine an ?_);(try refine .inl ?_);apply k0;clear k0;simp only[zP,J,List.append_assoc,bn,bc,bb])
   refine ah (k27 _ (kx ?_));refine aa λ_ k28=>?_;refine aa λ_ k29=>?_;have hil:i<l.length:=ω;have hei:=hwf.at_ hil;have hwl:=hwf.wl hil;have hbl:=hwf.le;have hbg:=hwf.big ha hb;have hbr:=hwr.big ha hb;have hge:=wF a b (l.getD i eS0) l x;have hat:=wu a b (l.getD i eS0) x hil;have har:=ha.rl (l.getD i eS0).1.toNat ω;have haq:=ha.ql (l.getD i eS0).1.toNat ω;have hbr2:=hb.rl (l.getD i eS0).2.1.toNat ω;have hbq:=hb.ql (l.getD i eS0).2.1.toNat ω;have hgi:∀ d,(List.map Ix (dZ a b (l.getD i eS0) l x)).getD i d=(((l.getD i eS0).1,((l.getD i eS0).2.1,())),((l.getD i eS0).2.2,())):=λd=>by rw[xc eS0 d ω,hat];rfl
   refine bz hP hN Tryz.mixed rfl ?_
   iterate 19 (refine aw rfl λ_ k0=>?_;simp only[zO,zT,acs,reduceCtorEq,ad,J,ae,aj,af,ag,Mly.av,aE,aW,bp,bj,bg,aq,bU,bM,aB,aI];(repeat refine an ?_);(try refine .inl ?_);apply k0;clear k0;simp only[zP,J,List.append_assoc,bn,bc,bb])
   refine ah ?_;refine⟨ζ,?_⟩;refine k29 _ (kx ?_);refine cB (λhc30=>?_) (λhc30=>?_)
   ·refine aa λ_ k31=>?_
    have hdx:jy a b (l.getD i eS0) x=true:=by simp only[jy,Mly.out,az];simp_all
    refine am hP hN rfl ?_
    iterate 8 (refine aw rfl λ_ k0=>?_;simp only[zO,zT,acs,reduceCtorEq,ad,J,ae,aj,af,ag,Mly.av,aE,aW,bp,bj,bg,aq,bU,bM,aB,aI,hgi];(repeat refine an ?_);(try refine .inl ?_);apply k0;clear k0;simp only[zP,J,List.append_assoc,bn,bc,bb])
    refine aw rfl λ_ k0=>?_;refine bo (h:=ak (dP [(l.getD i eS0).2.2,[(x:Int)]] (by rw[vI];omega))) rfl rfl (by first|exact rfl|(simp only[ev,zP,ad,J];exact rfl)) (by simp only[zV,acs,reduceCtorEq,ad,J,ae,aj,af,ag,Mly.av,aE,aW,bp,bj,bg,aq,bU,bM,aB,aI,hgi]) ?_;apply k0;clear k0;simp only[zP,J,List.append_assoc,bn,bc,bb]
    iterate 2 (refine aw rfl λ_ k0=>?_;simp only[zO,zT,acs,reduceCtorEq,ad,J,ae,aj,af,ag,Mly.av,aE,aW,bp,bj,bg,aq,bU,bM,aB,aI,hgi];(repeat refine an ?_);(try refine .inl ?_);apply k0;clear k0;simp only[zP,J,List.append_assoc,bn,bc,bb])
    refine ah (k31 _ (kx ?_));refine aA ?_;refine⟨nr,_,rfl,?_⟩;simp only[zF,zP,ad,J,Mly.av,aE,aW,bp,bj,bg,aq,bU,bM,aB,aI]
    first
    |(have hx2:x<a.inp.toNat:=by omega
      rw[← hsr,show fuS a b-i=(fuS a b-(i+1))+1 by omega,wC hil hx2 hdx hdf];exact VLE.of_eq η)
    |(rw[← hsr,E5 _ _ _ _ _ ω];exact bl ⟨aD (aS rfl),aD (.refl _),trivial⟩)
   refine au (k28 _ (kx ?_));refine aa λ_ k32=>?_;have hdn:jy a b (l.getD i eS0) x=false:=by simp only[jy,Mly.out,az];simp_all
   refine du ?_;simp only[aG,List.append_assoc,aC];refine bz hP hN Tryz.mixed rfl ?_
   iterate 19 (refine aw rfl λ_ k0=>?_;simp only[zO,zT,acs,reduceCtorEq,ad,J,ae,aj,af,ag,Mly.av,aE,aW,bp,bj,bg,aq,bU,bM,aB,aI];(repeat refine an ?_);(try refine .inl ?_);apply k0;clear k0;simp only[zP,J,List.append_assoc,bn,bc,bb])
   (refine aw rfl λ_ k0=>?_;simp only[zO,zT,acs,reduceCtorEq,ad,J,ae,aj,af,ag,Mly.av,aE,aW,bp,bj,bg,aq,bU,bM,aB,aI];refine Or.inr (Or.inl ⟨(a.nx.length+1+1+1+1+1+1),?_,(.pair Θ (.pair Θ .unit)),(0,(0,())),?_⟩);(simp only[zE,bg]);(repeat refine And.intro (by first|rfl|decide) ?_);refine k0 _ ?_;clear k0;simp only[zP,J,List.append_assoc,bn,bc,bb])
   (refine aw rfl λ_ k0=>?_;simp only[zO,zT,acs,reduceCtorEq,ad,J,ae,aj,af,ag,Mly.av,aE,aW,bp,bj,bg,aq,bU,bM,aB,aI];(repeat refine an ?_);(try refine .inl ?_);apply k0;clear k0;simp only[zP,J,List.append_assoc,bn,bc,bb])
   refine ah ?_;refine⟨by exact j7 (MW a.nx.length) [([],[0],0),([],[0],0),([],[5],0),([],[5],0),([],[],0),([],[],0),([],[],0),([],[],0),([],[],0),([],[1],0),([],[1],0),([],[5],0),([],[5],0),([],[],0),([],[],0),([],[],0),([],[],0),([],[],0),([],[],0),([6],[6],0),([6],[6],0)] ζ,?_⟩;refine k32 _ (kx ?_);refine aa λ_ k33=>?_;have hpn:=ha.nr (l.getD i eS0).1.toNat x ω ω;have hqn:=hb.nr (l.getD i eS0).2.1.toNat x ω ω;have hgP:=D4 (n:=a.nx.length) (i:=((a.nx.getD (l.getD i eS0).1.toNat []).getD x 0).toNat) ω;have hrP:∀ X:List AO,(dH 4 (snS (dZ a b (l.getD i eS0) l x) b.nx.length) a.nx.length++X)[((a.nx.getD (l.getD i eS0).1.toNat []).getD x 0).toNat]? =some (.row .bool 4 0 (snS (dZ a b (l.getD i eS0) l x) b.nx.length ((a.nx.getD (l.getD i eS0).1.toNat []).getD x 0).toNat)):=λX=>ET ω;have hsL:=N5 (dZ a b (l.getD i eS0) l x) b.nx.length ((a.nx.getD (l.getD i eS0).1.toNat []).getD x 0).toNat;have hsA:=RM (l:=(dZ a b (l.getD i eS0) l x)) (m:=b.nx.length) (p:=((a.nx.getD (l.getD i eS0).1.toNat []).getD x 0)) (q:=((b.nx.getD (l.getD i eS0).2.1.toNat []).getD x 0)) ω ω;have hEin:(l.getD i eS0)∈(dZ a b (l.getD i eS0) l x):=by
    have h9:=F6 (l:=(dZ a b (l.getD i eS0) l x)) (i:=i) ω;rw[hat] at h9;exact h9
   refine bz hP hN Tryz.mixed rfl ?_
   iterate 4 (refine aw rfl λ_ k0=>?_;simp only[zO,zT,acs,reduceCtorEq,ad,J,ae,aj,af,ag,Mly.av,aE,aW,bp,bj,bg,aq,bU,bM,aB,aI,hgP,hrP,hsL,hsA];(repeat refine an ?_);(try refine .inl ?_);apply k0;clear k0;simp only[zP,J,List.append_assoc,bn,bc,bb])
   refine' zJ true 10 109 (λhg34=>?a34) ?b34 ?c34
   case a34=>
    have hq34:=hg34;(try simp only[zB,reduceCtorEq] at hg34);simp only[zE]
    iterate 10 (refine db rfl λ_ k0=>?_;simp only[zO,zT,acs,reduceCtorEq,ad,J,ae,aj,af,ag,Mly.av,aE,aW,bp,bj,bg,aq,bU,bM,aB,aI,hgP,hrP,hsL,hsA];(repeat refine an ?_);(try refine .inl ?_);apply k0;clear k0;simp only[zP,J,List.append_assoc,bn,bc,bb])
    (refine aw rfl λ_ k0=>?_;simp only[zO,zT,acs,reduceCtorEq,ad,J,ae,aj,af,ag,Mly.av,aE,aW,bp,bj,bg,aq,bU,bM,aB,aI,hgP,hrP,hsL,hsA];(repeat refine an ?_);(try refine .inl ?_);apply k0;clear k0;simp only[zP,J,List.append_assoc,bn,bc,bb])
    refine ah ?_;exact zK hq34
   case b34=>exact cF
   simp only[bh,aX];refine ah ?_;refine⟨ζ,?_⟩;refine k33 _ (kx ?_);refine cB (λhc35=>?_) (λhc35=>?_)
   ·have hkn:inS (dZ a b (l.getD i eS0) l x) ((a.nx.getD (l.getD i eS0).1.toNat []).getD x 0) ((b.nx.getD (l.getD i eS0).2.1.toNat []).getD x 0)=false:=by simp_all
    refine aa λ_ k36=>?_;have hset:∀ X:List AO,(dH 4 (snS (dZ a b (l.getD i eS0) l x) b.nx.length) a.nx.length++X).set ((a.nx.getD (l.getD i eS0).1.toNat []).getD x 0).toNat (.row .bool 4 0 ((snS (dZ a b (l.getD i eS0) l x) b.nx.length ((a.nx.getD (l.getD i eS0).1.toNat []).getD x 0).toNat).set ((b.nx.getD (l.getD i eS0).2.1.toNat []).getD x 0).toNat true))=dH 4 (snS ((dZ a b (l.getD i eS0) l x)++[(((a.nx.getD (l.getD i eS0).1.toNat []).getD x 0),((b.nx.getD (l.getD i eS0).2.1.toNat []).getD x 0),(l.getD i eS0).2.2++[(x:Int)])]) b.nx.length) a.nx.length++X:=λX=>Ce ω (EB ω ω) (λj hj hne=>wA ω hne);refine bz hP hN Tryz.mixed rfl ?_
    iterate 9 (refine aw rfl λ_ k0=>?_;simp only[zO,zT,acs,reduceCtorEq,ad,J,ae,aj,af,ag,Mly.av,aE,aW,bp,bj,bg,aq,bU,bM,aB,aI,hgP,hrP,hsL];(repeat refine an ?_);(try refine .inl ?_);apply k0;clear k0;simp only[zP,J,List.append_assoc,bn,bc,bb,hset])
    refine ah ?_;refine⟨ζ,?_⟩;refine k36 _ (kx ?_);refine bz hP hN Tryz.mixed rfl ?_
    iterate 10 (refine aw rfl λ_ k0=>?_;simp only[zO,zT,acs,reduceCtorEq,ad,J,ae,aj,af,ag,Mly.av,aE,aW,bp,bj,bg,aq,bU,bM,aB,aI,hgi];(repeat refine an ?_);(try refine .inl ?_);apply k0;clear k0;simp only[zP,J,List.append_assoc,bn,bc,bb])
    refine aw rfl λ_ k0=>?_;refine bo (h:=ak (dP [(l.getD i eS0).2.2,[(x:Int)]] (by rw[vI];omega))) rfl rfl (by first|exact rfl|(simp only[ev,zP,ad,J];exact rfl)) (by simp only[zV,acs,reduceCtorEq,ad,J,ae,aj,af,ag,Mly.av,aE,aW,bp,bj,bg,aq,bU,bM,aB,aI,hgi]) ?_;apply k0;clear k0;simp only[zP,J,List.append_assoc,bn,bc,bb]
    iterate 4 (refine aw rfl λ_ k0=>?_;simp only[zO,zT,acs,reduceCtorEq,ad,J,ae,aj,af,ag,Mly.av,aE,aW,bp,bj,bg,aq,bU,bM,aB,aI,hgi];(repeat refine an ?_);(try refine .inl ?_);apply k0;clear k0;simp only[zP,J,List.append_assoc,bn,bc,bb])
    refine ah ?_;refine⟨ζ,?_⟩;refine k26 _ (kx ?_);refine fJ [3,4,8,10,11,12,55,56] ?_;simp only[dh,lkp,zE,reduceCtorEq,ad];refine jx (L1:=_::_::_::_::(_++[_,_])) (by simp only[aG,List.append_assoc,aC];rfl) hB (by simp[fQ,mu,bY,aW]) (by simp[cr,bY,nj,sZ,aW]) ?_;refine am hP hN rfl ?_
    iterate 2 (refine aw rfl λ_ k0=>?_;simp only[zO,zT,acs,reduceCtorEq,ad,J,ae,aj,af,ag,Mly.av,aE,aW,bp,bj,bg,aq,bU,bM,aB,aI];(repeat refine an ?_);(try refine .inl ?_);apply k0;clear k0;simp only[zP,J,List.append_assoc,bn,bc,bb])
    refine ah ?_
    first
    |(have hk:inS (dZ a b (l.getD i eS0) l x) (a.nxt (l.getD i eS0).1 x) (b.nxt (l.getD i eS0).2.1 x)=true:=hkk
      refine⟨_,_,?_,ar [3,4,8,10,11,12,55,56],x+1,v2,ω,λy hy=>?_,hwf.row ha hb hi hil (x+1) ω,rfl,?_⟩
      ·omega
      ·by_cases e:y=x
       ·rw[e];exact hdn
       ·exact hdf y ω
      ·rw[gB,stS,if_pos hk];first|done|rfl)
    |(have hk:¬inS (dZ a b (l.getD i eS0) l x) (a.nxt (l.getD i eS0).1 x) (b.nxt (l.getD i eS0).2.1 x)=true:=λhh=>Bool.noConfusion (hkn.symm.trans hh)
      refine⟨_,_,?_,ar [3,4,8,10,11,12,55,56],x+1,v2+1,ω,λy hy=>?_,hwf.row ha hb hi hil (x+1) ω,rfl,?_⟩
      ·omega
      ·by_cases e:y=x
       ·rw[e];exact hdn
       ·exact hdf y ω
      ·rw[gB,stS,if_neg hk,List.map_append];simp only[List.flatten_cons,List.flatten_nil,List.append_nil];rfl)
   have hkk:inS (dZ a b (l.getD i eS0) l x) ((a.nx.getD (l.getD i eS0).1.toNat []).getD x 0) ((b.nx.getD (l.getD i eS0).2.1.toNat []).getD x 0)=true:=by
    by_cases e1:((a.nx.getD (l.getD i eS0).1.toNat []).getD x 0)=(l.getD i eS0).1∧((b.nx.getD (l.getD i eS0).2.1.toNat []).getD x 0)=(l.getD i eS0).2.1
    ·exact lT.2 ⟨(l.getD i eS0),hEin,e1.1.symm,e1.2.symm⟩
    ·cases hX:inS (dZ a b (l.getD i eS0) l x) ((a.nx.getD (l.getD i eS0).1.toNat []).getD x 0) ((b.nx.getD (l.getD i eS0).2.1.toNat []).getD x 0) with
     |true=>rfl
     |false=>exfalso;simp_all
   refine au (k26 _ (kx ?_));refine fJ [3,4,8,10,11,12,55,56] ?_;simp only[dh,lkp,zE,reduceCtorEq,ad];refine jx (L1:=_::_::_::_::(_++[_,_])) (by simp only[aG,List.append_assoc,aC];rfl) hB (by simp[fQ,mu,bY,aW]) (by simp[cr,bY,nj,sZ,aW]) ?_;refine am hP hN rfl ?_
   iterate 2 (refine aw rfl λ_ k0=>?_;simp only[zO,zT,acs,reduceCtorEq,ad,J,ae,aj,af,ag,Mly.av,aE,aW,bp,bj,bg,aq,bU,bM,aB,aI];(repeat refine an ?_);(try refine .inl ?_);apply k0;clear k0;simp only[zP,J,List.append_assoc,bn,bc,bb])
   refine ah ?_
   first
   |(have hk:inS (dZ a b (l.getD i eS0) l x) (a.nxt (l.getD i eS0).1 x) (b.nxt (l.getD i eS0).2.1 x)=true:=hkk
     refine⟨_,_,?_,ar [3,4,8,10,11,12,55,56],x+1,v2,ω,λy hy=>?_,hwf.row ha hb hi hil (x+1) ω,rfl,?_⟩
     ·omega
     ·by_cases e:y=x
      ·rw[e];exact hdn
      ·exact hdf y ω
     ·rw[gB,stS,if_pos hk];first|done|rfl)
   |(have hk:¬inS (dZ a b (l.getD i eS0) l x) (a.nxt (l.getD i eS0).1 x) (b.nxt (l.getD i eS0).2.1 x)=true:=λhh=>Bool.noConfusion (hkn.symm.trans hh)
     refine⟨_,_,?_,ar [3,4,8,10,11,12,55,56],x+1,v2+1,ω,λy hy=>?_,hwf.row ha hb hi hil (x+1) ω,rfl,?_⟩
     ·omega
     ·by_cases e:y=x
      ·rw[e];exact hdn
      ·exact hdf y ω
     ·rw[gB,stS,if_neg hk,List.map_append];simp only[List.flatten_cons,List.flatten_nil,List.append_nil];rfl)
  refine aL ?_;refine k19 _ (kx ?_);have hbg:=hwf.big ha hb;refine fJ [3,4,8,10,11] ?_;simp only[dh,lkp,zE,reduceCtorEq,ad];refine jx (L1:=_::_::_::_::(_++[_])) (by simp only[aG,List.append_assoc,aC];rfl) hB (by simp[fQ,mu,bY,aW]) (by simp[cr,bY,nj,sZ,aW]) ?_;refine am hP hN rfl ?_
  iterate 3 (refine aw rfl λ_ k0=>?_;simp only[zO,zT,acs,reduceCtorEq,ad,J,ae,aj,af,ag,Mly.av,aE,aW,bp,bj,bg,aq,bU,bM,aB,aI];(repeat refine an ?_);(try refine .inl ?_);apply k0;clear k0;simp only[zP,J,List.append_assoc,bn,bc,bb])
  refine ah ?_;have hil:i<l.length:=ω;have hbl:=hwf.le;have hge:=wF a b (l.getD i eS0) l x;have hxe:x=a.inp.toNat:=ω;subst hxe;refine⟨_,_,?_,ar [3,4,8,10,11],i+1,dZ a b (l.getD i eS0) l a.inp.toNat,v2,hwr,?_,ω,rfl,rfl⟩
  ·omega
  ·rw[← hsr,show fuS a b-i=(fuS a b-(i+1))+1 by omega,Kt hil (λy hy=>hdf y ω)]
 refine aL ?_;refine k13 _ (kx ?_);refine aa λK37 k37=>am hP hN rfl ?_
 iterate 2 (refine aw rfl λ_ k0=>?_;simp only[zO,zT,acs,reduceCtorEq,ad,J,ae,aj,af,ag,Mly.av,aE,aW,bp,bj,bg,aq,bU,bM,aB,aI];(repeat refine an ?_);(try refine .inl ?_);apply k0;clear k0;simp only[zP,J,List.append_assoc,bn,bc,bb])
 refine ah (k37 _ (kx ?_));refine aA ?_;refine⟨nr,_,rfl,?_⟩;simp only[zF,zP,ad,J,Mly.av,aE,aW,bp,bj,bg,aq,bU,bM,aB,aI]
 first
 |(have hx2:x<a.inp.toNat:=by omega
   rw[← hsr,show fuS a b-i=(fuS a b-(i+1))+1 by omega,wC hil hx2 hdx hdf];exact VLE.of_eq η)
 |(rw[← hsr,E5 _ _ _ _ _ ω];exact bl ⟨aD (aS rfl),aD (.refl _),trivial⟩)
theorem BY (a b:Mly):aY Tryz.prog 112 [a.av,b.av] (.tup [.one (.list Θ ((dqW a b).getD [])),.one (.bool (dqW a b).isSome),.one (.int .i64 (jI a b))]):=by
 refine zQ 29 Tryz.func112 λC hP hN hB=>?_;have hX:KX [0,1,2,3,4,5,6,7,8,9,14]:=⟨trivial⟩
 refine zT5 ?_;refine aa λ_ k2=>?_;refine aa λK3 k3=>am hP hN rfl ?_
 iterate 2 refine zS6 ?_
 refine zC8 (ak (L5 a b)) ?_;refine zS6 ?_;refine ah (k3 _ (kx ?_));refine zT5 ?_;refine cB (λhc5=>?_) (λhc5=>?_)
 ·refine zT5 ?_
  refine aA ?_;refine⟨nr,_,rfl,?_⟩;simp only[zF,zP,ad,J,Mly.av]
  first
  |(rw[Cu ‹¬jI a b=0›];exact bl ⟨aD (aS rfl),aD (.refl _),aD (.refl _),trivial⟩)
  |(have h0:jI a b=0:=by omega
    rw[H8 h0,h0];exact VLE.of_eq rfl)
 have hq:=OF (a:=a) (b:=b) ω;refine au (k2 _ (kx ?_));refine aa λK7 k7=>am hP hN rfl ?_
 iterate 7 refine zS6 ?_
 refine zC8 (ak (zz a b a.st b.st hq.1 hq.2.1 hq.2.2 ⟨hq.1.s1,hq.1.s2⟩ ⟨hq.2.1.s1,hq.2.1.s2⟩)) ?_
 iterate 5 refine zS6 ?_
 refine ah (k7 _ (kx ?_));refine zT5 ?_;refine aA ?_;refine⟨nr,_,rfl,?_⟩;simp only[zF,zP,ad,J,Mly.av]
 first
 |(rw[Cu ‹¬jI a b=0›];exact bl ⟨aD (aS rfl),aD (.refl _),aD (.refl _),trivial⟩)
 |(have h0:jI a b=0:=by omega
   rw[H8 h0,h0];exact VLE.of_eq rfl)
theorem Qf (a b:Mly):aY Tryz.prog 115 [a.av,b.av] (.tup [.one (.bool (eqQ a b)),.one (.int .i64 (jI a b))]):=by
 refine zQ 23 Tryz.func115 λC hP hN hB=>?_;have hX:KX [0,1,2,3,4,5,7,8]:=⟨trivial⟩
 refine zT5 ?_;refine aa λK2 k2=>am hP hN rfl ?_
 iterate 2 refine zS6 ?_
 refine zC8 (ak (BY a b)) ?_
 iterate 7 refine zS6 ?_
 refine ah (k2 _ (kx ?_));refine aa λK3 k3=>am hP hN rfl ?_
 iterate 3 refine zS6 ?_
 refine' zJ true 2 18 (λhg4=>?a4) ?b4 ?c4
 case a4=>
  have hq4:=hg4;(try simp only[zB,reduceCtorEq] at hg4);simp only[zE]
  iterate 2 refine zD7 ?_
  refine zS6 ?_;refine ah ?_;exact zK hq4
 case b4=>exact cF
 simp only[bh,aX]
 iterate 3 refine zS6 ?_
 refine ah (k3 _ (kx ?_));refine aA ?_;refine zZm ?_
 rfl
theorem OC (m:Mly)(cl:List Int)(hm:MOK m)(hl:cl.length=m.nx.length)(hr:∀ s,s<m.nx.length→0≤cl.getD s 0∧cl.getD s 0<m.nx.length):aY Tryz.prog 116 [m.av,.one (.list Θ cl)] (.tup [.one (.list Θ (m.nextL cl)),.one (.int .i64 (m.nextN cl))]):=by
 have hn2:=hm.n2;have hi2:=hm.i2;have hi1:=hm.i1;have hol:=hm.ol;refine zQ 73 Tryz.func116 λC hP hN hB=>?_;have hX:KX [0,1,2,4,5,6,7,8,9,10,11,12,18,19,20,23,24,25,59]:=⟨trivial⟩
 refine ni (And.intro bK (And.intro bE bJ)) ?_;refine aa λK2 k2=>am hP hN rfl ?_
 (refine aw rfl λ_ k0=>?_;simp only[zE,op1,ev,lkp,cR,bP,kC,reduceCtorEq,ad,J,ae,aj,af,ag,Tryz.mk218,Mly.av,bK,eW,bE,fP,bJ,List.length_set];(repeat refine an ?_);(try refine .inl ?_);apply k0;clear k0;simp only[zP,J])
 refine tC (And.intro bK (And.intro bE bJ)) ?_;refine ah (k2 _ (kx ?_));refine aa λK3 k3=>am hP hN rfl ?_
 iterate 2 refine tC (And.intro bK (And.intro bE bJ)) ?_
 (refine aw rfl λ_ k0=>?_;simp only[zE,op1,ev,lkp,cR,bP,cC,gm,ff,cY,dC,fa,Nat.div_one,cV,di,Ty.size,bq,dite_true,cH,Ty.dflt,reduceCtorEq,ad,J,ae,aj,af,ag,Tryz.el26,Tryz.td26,Tryz.td3,Mly.av,bK,eW,bE,fP,bJ,List.length_set];(repeat refine an ?_);(try refine .inl ?_);apply k0;clear k0;simp only[zP,J])
 refine tC (And.intro bK (And.intro bE bJ)) ?_;refine ah (k3 _ (kx ?_));refine aa λ_ k4=>?_;refine ni (And.intro bK (And.intro bE bJ)) ?_;refine ay ?_;refine aM (λn6 s6=>∃ (k:Nat),(k≤m.nx.length)∧n6=m.nx.length-k∧s6={env:=[(1,.one (.list Θ cl)),(2,.one (.ptr 0 0 0 0)),(6,.one (.mpv 1)),(7,.one (.row 2 0)),(18,.one (.int .i64 (cl.length:Int))),(19,.one (.int .i64 (k:Int)))],L:=[.vars 24 [.int .i64 m.inp,.int .i64 m.st,.list Γ m.nx,.list Γ m.ot],.mp 218 .int (tv (et (m.sig cl) k)),.row Θ 3 0 (kX (λs=>(pos (et (m.sig cl) m.nx.length) (m.sig cl s):Int)) 0 m.nx.length k)]}) ?_ ?_
 ·refine⟨_,_,ar [1,2,6,7,18,19],0,Nat.zero_le _,rfl,?_⟩
  rw[xv,hl];rfl
 rintro n6 s6 ⟨k,hk,rfl,rfl⟩;refine ni (And.intro bK (And.intro bE bJ)) ?_;refine aa λ_ k8=>?_;refine cB (λhc9=>?_) (λhc9=>?_)
 ·refine au ?_
  refine k8 _ (kx ?_);refine aa λ_ k10=>?_;refine ay ?_;refine ni (And.intro bK (And.intro bE bJ)) ?_;refine ni (And.intro bK (And.intro bE bJ)) ?_;refine aa λ_ k13=>?_;refine ni (And.intro bK (And.intro bE bJ)) ?_;refine ay ?_;refine aM (λn15 s15=>∃ (a:Nat),((a:Int)≤m.inp)∧n15=m.inp.toNat-a∧s15={env:=[(1,.one (.list Θ cl)),(2,.one (.ptr 0 0 0 0)),(6,.one (.mpv 1)),(7,.one (.row 2 0)),(8,.one (.int .i64 (k:Int))),(9,.one (.ptr 3 0 0 0)),(18,.one (.int .i64 (cl.length:Int))),(19,.one (.int .i64 (k:Int))),(23,.one (.int .i64 m.inp)),(24,.one (.int .i64 (a:Int)))],L:=[.vars 24 [.int .i64 m.inp,.int .i64 m.st,.list Γ m.nx,.list Γ m.ot],.mp 218 .int (tv (et (m.sig cl) k)),.row Θ 3 0 (kX (λs=>(pos (et (m.sig cl) m.nx.length) (m.sig cl s):Int)) 0 m.nx.length k),.vars 220 (gn (m.sigP cl a k))]}) ?_ ?_
  ·refine⟨_,_,ar [1,2,6,7,8,9,18,19,23,24],0,ω,rfl,?_⟩
   rw[← Ft,← Dn];rfl
  rintro n15 s15 ⟨a,ha,rfl,rfl⟩;refine ni (And.intro bK (And.intro bE bJ)) ?_;refine aa λ_ k17=>?_;refine cB (λhc18=>?_) (λhc18=>?_)
  ·refine au ?_
   refine k17 _ (kx ?_);refine aa λ_ k19=>?_;refine ay ?_;refine ni (And.intro bK (And.intro bE bJ)) ?_;refine aa λ_ k21=>?_;have hrl:=hm.rl k ω;have hql:=hm.ql k ω;have hnr:=hm.nr k a ω ω;have hw1:∀ v,cg (gn (m.sigP cl a k)) a [AC.int .i64 v]=gn ((m.sigP cl a k).set a v):=λv=>pv (by rw[eW];omega) v;have h64:((64:Int)+(a:Int)).toNat=64+a:=by omega
   refine am hP hN rfl ?_
   iterate 11 (refine aw rfl λ_ k0=>?_;simp only[zE,op1,ev,lkp,cR,bP,cq,dR,Nat.mul_one,bZ,cT,acs,Ty.dflt,zG,cK,dq,Ty.size,ne_eq,not_false_eq_true,Int.natCast_one,Int.mul_one,fo,cG,bq,reduceCtorEq,ad,J,ae,aj,af,ag,Tryz.ea220,Tryz.el22,Tryz.el26,Tryz.sa220,Tryz.st24,Tryz.td22,Tryz.td220,Tryz.td24,Tryz.td26,Tryz.td3,Mly.av,bK,eW,bE,fP,bJ,List.length_set,hw1];(repeat refine an ?_);(try refine .inl ?_);apply k0;clear k0;simp only[zP,J])
   refine ah (k21 _ (kx ?_));refine am hP hN rfl ?_
   iterate 15 (refine aw rfl λ_ k0=>?_;simp only[zE,op1,ev,lkp,cR,bP,gT,cZ,gk,gW,fH,iz,cq,dR,Nat.mul_one,bZ,cT,acs,Ty.dflt,zG,cK,dq,Ty.size,ne_eq,not_false_eq_true,Int.natCast_one,Int.mul_one,fo,cG,bq,reduceCtorEq,ad,J,ae,aj,af,ag,Tryz.ea220,Tryz.el22,Tryz.el26,Tryz.sa220,Tryz.st24,Tryz.td2,Tryz.td22,Tryz.td220,Tryz.td24,Tryz.td26,Tryz.td3,Mly.av,bK,eW,bE,fP,bJ,List.length_set,hw1,h64];(repeat refine an ?_);(try refine .inl ?_);apply k0;clear k0;simp only[zP,J])
   refine ah (k19 _ (kx ?_));refine CY (And.intro bK (And.intro bE bJ)) (h:=?_);refine⟨_,_,?_,ar [1,2,6,7,8,9,18,19,23,24],a+1,ω,rfl,?_⟩
   ·omega
   ·rw[pv (by simp[eW];omega),Lo m cl k ω];rfl
  refine aL ?_;refine k13 _ (kx ?_);refine aa λ_ k22=>?_;have hkey:=KE hm hr (a:=a) (s:=k) ω ω;have hsg:m.sigP cl a k=m.sig cl k:=by unfold Mly.sig;rw[show m.inp.toNat=a by omega]
  rw[hsg] at hkey⊢;have hdl:=vO (m.sig cl) k;have hst:(m.sig cl k).take 128=m.sig cl k:=by rw[← hsg];exact fP _ _ _ _
  have hsl:(m.sig cl k).length=128:=by rw[← hsg];exact eW _ _ _ _
  have hsf:=yA (λs=>(pos (et (m.sig cl) m.nx.length) (m.sig cl s):Int)) 0 (n:=m.nx.length) (k:=k) ω;refine am hP hN rfl ?_
  iterate 2 refine tC (And.intro bK (And.intro bE (And.intro bJ (And.intro hst hsl)))) ?_
  (refine aw rfl λ_ k0=>?_;simp only[zE,op1,ev,lkp,cR,bP,dR,Nat.mul_one,bZ,cT,acs,Ty.dflt,zG,cK,lC,bB,VK.ac,gG,reduceCtorEq,ad,J,ae,aj,af,ag,Tryz.ea220,Tryz.mk218,Tryz.sa220,Tryz.td1,Tryz.td220,Tryz.td3,Tryz.td4,Mly.av,bK,eW,bE,fP,bJ,List.length_set,hst,hsl];(repeat refine an ?_);(try refine .inl ?_);apply k0;clear k0;simp only[zP,J])
  iterate 5 refine tC (And.intro bK (And.intro bE (And.intro bJ (And.intro hst hsl)))) ?_
  refine ah (k22 _ (kx ?_));refine aa λ_ k23=>?_;refine ni (And.intro bK (And.intro bE bJ)) ?_;refine cB (λhc25=>?_) (λhc25=>?_)
  ·refine ni (And.intro bK (And.intro bE (And.intro bJ yU))) ?_
   refine am hP hN rfl ?_
   iterate 3 refine tC (And.intro bK (And.intro bE (And.intro bJ (And.intro hst hsl)))) ?_
   (refine aw rfl λ_ k0=>?_;simp only[zE,op1,ev,lkp,cR,bP,dR,Nat.mul_one,bZ,cT,acs,Ty.dflt,zG,cK,fO,bB,valOf,reduceCtorEq,ad,J,ae,aj,af,ag,Tryz.ea220,Tryz.mk218,Tryz.sa220,Tryz.td220,Tryz.td3,Mly.av,bK,eW,bE,fP,bJ,List.length_set,hst,hsl];(repeat refine an ?_);(try refine .inl ?_);apply k0;clear k0;simp only[zP,J])
   refine ah (k23 _ (kx ?_));refine CY (And.intro bK (And.intro bE (And.intro bJ hsf))) (h:=k10 _ (kx ?_));refine fJ [1,2,6,7,18,19] ?_;simp only[dh,lkp,zE,reduceCtorEq,ad];refine iu 3 rfl ?_;refine dO (n:=3) (L1:=[_,_,_]) rfl rfl (by rw[hB];decide) rfl rfl ?_;refine CY (And.intro bK (And.intro bE bJ)) (h:=?_)
   first
   |(have hin:m.sig cl k∈et (m.sig cl) k:=by
      false_or_by_contra;rename_i hh;rw[iq,if_neg hh] at*;simp_all
     refine⟨_,_,?_,ar [1,2,6,7,18,19],k+1,ω,rfl,?_⟩
     ·omega
     ·rw[f8,gU hin,← lB _ _ ω,sF ω hin,iq,if_pos hin];rfl)
   |(have hin:m.sig cl k∉et (m.sig cl) k:=by
      intro hh;rw[iq,if_pos hh] at*;simp_all
     refine⟨_,_,?_,ar [1,2,6,7,18,19],k+1,ω,rfl,?_⟩
     ·omega
     ·rw[f8,gg hin,← lB _ _ ω,tm ω hin,Ar hin];rfl)
  refine au (k23 _ (kx ?_));refine CY (And.intro bK (And.intro bE (And.intro bJ hsf))) (h:=k10 _ (kx ?_));refine fJ [1,2,6,7,18,19] ?_;simp only[dh,lkp,zE,reduceCtorEq,ad];refine iu 3 rfl ?_;refine dO (n:=3) (L1:=[_,_,_]) rfl rfl (by rw[hB];decide) rfl rfl ?_;refine CY (And.intro bK (And.intro bE bJ)) (h:=?_)
  first
  |(have hin:m.sig cl k∈et (m.sig cl) k:=by
     false_or_by_contra;rename_i hh;rw[iq,if_neg hh] at*;simp_all
    refine⟨_,_,?_,ar [1,2,6,7,18,19],k+1,ω,rfl,?_⟩
    ·omega
    ·rw[f8,gU hin,← lB _ _ ω,sF ω hin,iq,if_pos hin];rfl)
  |(have hin:m.sig cl k∉et (m.sig cl) k:=by
     intro hh;rw[iq,if_pos hh] at*;simp_all
    refine⟨_,_,?_,ar [1,2,6,7,18,19],k+1,ω,rfl,?_⟩
    ·omega
    ·rw[f8,gg hin,← lB _ _ ω,tm ω hin,Ar hin];rfl)
 refine aL ?_;refine k4 _ (kx ?_);refine ni (And.intro bK (And.intro bE bJ)) ?_;refine aA ?_;refine⟨nr,_,rfl,?_⟩;simp only[zF,zP,ad,J,Mly.av,bK,eW,bE,fP,bJ,List.length_set];refine VLE.of_eq ?_;have hkn:k=m.nx.length:=ω;subst hkn;rw[zv,yU];rfl
theorem FI (m:Mly)(k:Int)(hm:MOK m):aY Tryz.prog 71 [m.av,.one (.int .i64 k)] (.tup [.one (.list Θ (m.refC k)),.one (.int .i64 (m.refK k))]):=by
 have hn2:=hm.n2;have hn1:=hm.n1;have hNN:((mT m k:Nat):Int)=min (max k 0) (m.nx.length:Int):=by unfold mT;omega
 refine zQ 45 Tryz.func71 λC hP hN hB=>?_;have hX:KX [0,1,2,4,5,6,7,8,9,10,20,21,22,32]:=⟨trivial⟩
 refine zT5 ?_;refine aa λK2 k2=>am hP hN rfl ?_
 iterate 3 refine zS6 ?_
 (refine aw rfl λ_ k0=>?_;simp only[zE,op1,ev,lkp,cR,bP,cq,dR,Nat.mul_one,bZ,cT,acs,Ty.dflt,zG,cK,cC,gm,ff,cY,dC,fa,Nat.div_one,cV,di,Ty.size,bq,dite_true,cH,reduceCtorEq,ad,J,ae,aj,af,ag,Tryz.el22,Tryz.el26,Tryz.st24,Tryz.td2,Tryz.td22,Tryz.td24,Tryz.td26,Tryz.td3,Mly.av];(repeat refine an ?_);(try refine .inl ?_);apply k0;clear k0;simp only[zP,J])
 iterate 2 refine zS6 ?_
 refine ah (k2 _ (kx ?_));refine aa λ_ k3=>?_;refine aa λ_ k4=>?_;refine cA 1 rfl ?_;simp only[aJ,aV,zS,ad,ZW,reduceCtorEq];refine zR5 (h:=k4 _ (kx ?_));refine ay ?_;refine aM (λn5 s5=>∃ (j:Nat),(j≤mT m k)∧(∀ q,q<j→m.cnt (q+1)≠m.cnt q)∧n5=mT m k-j∧s5={env:=[(1,.one (.int .i64 k)),(2,.one (.ptr 0 0 0 0)),(6,.one (.list Θ (m.cls j))),(7,.one (.int .i64 (m.cnt j))),(20,.one (.int .i64 (min (max k 0) (m.nx.length:Int)))),(21,.one (.int .i64 (j:Int)))],L:=[.vars 24 [.int .i64 m.inp,.int .i64 m.st,.list Γ m.nx,.list Γ m.ot],.dead 0]}) ?_ ?_
 ·refine⟨_,_,ar [1,2,6,7,20,21],0,Nat.zero_le _,λq hq=>by omega,rfl,rfl⟩
 rintro n5 s5 ⟨j,hj,hq,rfl,rfl⟩;refine zT5 ?_;refine aa λ_ k7=>?_;refine cB (λhc8=>?_) (λhc8=>?_)
 ·refine au ?_
  refine k7 _ (kx ?_);refine aa λ_ k9=>?_;refine ay ?_;refine zT5 ?_;refine aa λK11 k11=>am hP hN rfl ?_
  iterate 2 refine zS6 ?_
  refine zC8 (ak (OC m (m.cls j) hm (wW m j) (Dz hm j))) ?_
  iterate 5 refine zS6 ?_
  refine ah (k11 _ (kx ?_));refine aa λ_ k12=>?_;refine zT5 ?_;refine cB (λhc14=>?_) (λhc14=>?_)
  ·refine zT5 ?_
   refine aA ?_;refine zZm ?_
   first
   |(have hce:m.cnt (j+1)=m.cnt j:=by assumption
     have e:=za (m:=m) (N:=mT m k) (j:=j) ω hce hq;unfold Mly.refC Mly.refK;rw[e])
   |(have hjn:j=mT m k:=by omega
     subst hjn;have e:=vM hq;unfold Mly.refC Mly.refK;rw[e,hNN])
  refine au (k12 _ (kx ?_));refine zR5 (h:=k9 _ (kx ?_));refine zR5 (h:=?_);have hne:m.cnt (j+1)≠m.cnt j:=by first|assumption|(intro hh;simp_all [Mly.cnt])
  refine⟨_,_,?_,ar [1,2,6,7,20,21],j+1,ω,λq hq2=>?_,rfl,rfl⟩
  ·omega
  ·by_cases e:q=j
   ·rw[e];exact hne
   ·exact hq q ω
 refine aL ?_;refine k3 _ (kx ?_);refine aa λ_ k16=>?_;refine bz hP hN Tryz.mixed rfl ?_
 iterate 9 refine zS6 ?_
 refine ah ?_;refine⟨ζ,?_⟩;refine k16 _ (kx ?_);refine aA ?_;refine zZm ?_
 first
 |(have hce:m.cnt (j+1)=m.cnt j:=by assumption
   have e:=za (m:=m) (N:=mT m k) (j:=j) ω hce hq;unfold Mly.refC Mly.refK;rw[e])
 |(have hjn:j=mT m k:=by omega
   subst hjn;have e:=vM hq;unfold Mly.refC Mly.refK;rw[e,hNN])
theorem RR (m:Mly)(k:Int):aY Tryz.prog 36 [m.av,.one (.int .i64 k)] (.tup [.one (.list Θ (if aK m=0 then m.refC k else [])),.one (.int .i64 (aK m))]):=by
 refine zQ 21 Tryz.func36 λC hP hN hB=>?_;have hX:KX [0,1,2,4,5,6,7,12]:=⟨trivial⟩
 refine zT5 ?_;refine aa λ_ k2=>?_;refine aa λK3 k3=>am hP hN rfl ?_;refine zS6 ?_;refine zC8 (ak (fu m)) ?_;refine zS6 ?_;refine ah (k3 _ (kx ?_));refine zT5 ?_;refine cB (λhc5=>?_) (λhc5=>?_)
 ·refine zT5 ?_
  refine aA ?_;refine⟨nr,_,rfl,?_⟩;simp only[zF,zP,ad,J,Mly.av]
  first
  |(rw[if_neg ‹¬aK m=0›];exact bl ⟨aD (aS rfl),aD (.refl _),trivial⟩)
  |(rw[if_pos ‹aK m=0›,‹aK m=0›];exact bl ⟨aD (.refl _),aD (.refl _),trivial⟩)
 refine au (k2 _ (kx ?_));refine aa λK7 k7=>am hP hN rfl ?_
 iterate 2 refine zS6 ?_
 refine zC8 (ak (FI m k (fc (by assumption)))) ?_
 iterate 5 refine zS6 ?_
 refine ah (k7 _ (kx ?_));refine zT5 ?_;refine aA ?_;refine⟨nr,_,rfl,?_⟩;simp only[zF,zP,ad,J,Mly.av]
 first
 |(rw[if_neg ‹¬aK m=0›];exact bl ⟨aD (aS rfl),aD (.refl _),trivial⟩)
 |(rw[if_pos ‹aK m=0›,‹aK m=0›];exact bl ⟨aD (.refl _),aD (.refl _),trivial⟩)
theorem Fz (m:Mly):aY Tryz.prog 15 [m.av] (.tup [.one (.list Θ (if aK m=0 then m.eqc else [])),.one (.int .i64 (aK m))]):=by
 refine zQ 8 Tryz.func15 λC hP hN hB=>?_;have hX:KX [0,1,2,3]:=⟨trivial⟩
 refine zT5 ?_;refine aa λK2 k2=>am hP hN rfl ?_;refine zS6 ?_;refine zC8 (ak (RR m 128)) ?_
 iterate 4 refine zS6 ?_
 refine ah (k2 _ (kx ?_));refine aA ?_;refine zZm ?_
 rfl
theorem Da (m:Mly)(hv:aK m=0):aY Tryz.prog 15 [m.av] (.tup [.one (.list Θ m.eqc),.one (.int .i64 0)]):=by
 have h:=Fz m;rw[if_pos hv,hv] at h;exact h
theorem AN:aY Tryz.prog 35 [.one .nils] (.one .nils):=by
 refine zQ 8 Tryz.func35 λC hP hN hB=>?_;have hX:KX [0,2,4]:=⟨trivial⟩
 refine zT2 ?_;refine aa λ_ k2=>?_;refine zT2 ?_;refine cB (λhc4=>?_) (λhc4=>?_)
 ·refine zT2 ?_
  refine aA ?_;refine zZn ?_
  rfl
 ·exact zX hc4
theorem S0:aY Tryz.prog 35 [.one .emp] (.one (.list Θ [])):=by
 refine zQ 8 Tryz.func35 λC hP hN hB=>?_;have hX:KX [0,2,4]:=⟨trivial⟩
 refine zT2 ?_;refine aa λ_ k2=>?_;refine zT2 ?_;refine cB (λhc4=>?_) (λhc4=>?_)
 ·exact zX hc4
 refine au (k2 _ (kx ?_));refine aa λK5 k5=>am hP hN rfl ?_;refine zS4 ?_
 iterate 3 refine zS3 ?_
 refine ah (k5 _ (kx ?_));refine aA ?_;refine zZn ?_
 rfl
theorem Rt (xs:List Int)(h0:0<xs.length)(h1:xs.length≤10000000000000):aY Tryz.prog 35 [.one (.list Θ xs)] (.one (.list Θ xs)):=by
 refine zQ 8 Tryz.func35 λC hP hN hB=>?_;have hX:KX [0,2,4]:=⟨trivial⟩
 refine zT2 ?_;refine aa λ_ k2=>?_;refine zT2 ?_;refine cB (λhc4=>?_) (λhc4=>?_)
 ·exact zX hc4
 refine au (k2 _ (kx ?_));refine aa λK5 k5=>am hP hN rfl ?_;refine zS4 ?_
 iterate 3 refine zS3 ?_
 refine ah (k5 _ (kx ?_));refine aA ?_;refine zZn ?_
 rfl
theorem fz (xs:List Int)(h:xs.length≤10000000000000):aY Tryz.prog 35 [.one (.list Θ xs)] (.one (.list Θ xs)):=
 CD (t:=.int .i64) (λe=>EJ AN (x7 (aS e))) (λe=>by subst e;exact S0) (λh0=>Rt xs h0 h) AN.1
end Go.Proofs.YtiedpcchhicifaaGreatDoor
