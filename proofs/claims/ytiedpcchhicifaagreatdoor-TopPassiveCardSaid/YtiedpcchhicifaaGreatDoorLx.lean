/- Part of the proof. -/
import Derived.Test.YtiedpcchhicifaaGreatDoorLw
set_option linter.unusedSimpArgs false
set_option linter.unusedVariables false
open List renaming getElem?_eq_some_iff→Δ
open Nat renaming le_refl→Υ
namespace Go.AV
def kX {α:Type}(f:Nat→α)(d:α)(n k:Nat):List α:=(List.range k).map f++List.replicate (n-k) d
theorem yA {α:Type}(f:Nat→α)(d:α){n k:Nat}(h:k≤n):(kX f d n k).length=n:=by simp[kX];omega
theorem xv {α:Type}(f:Nat→α)(d:α)(n:Nat):kX f d n 0=List.replicate n d:=by simp[kX]
theorem zv {α:Type}(f:Nat→α)(d:α)(n:Nat):kX f d n n=(List.range n).map f:=by simp[kX]
theorem lB {α:Type}(f:Nat→α)(d:α){n k:Nat}(h:k<n):(kX f d n k).set k (f k)=kX f d n (k+1):=by
 unfold kX;rw[List.set_append];simp only[List.length_map,List.length_range,Nat.lt_irrefl,if_false,Nat.sub_self];rw[show n-k=(n-(k+1))+1 by omega,List.replicate_succ,List.set_cons_zero,List.range_succ,List.map_append];simp
def gn (l:List Int):List AC:=l.map (AC.int .i64)
theorem bK (l:List Int):(gn l).length=l.length:=by simp[gn]
theorem Dn (n:Nat)(z:Int):List.replicate n (AC.int .i64 z)=gn (List.replicate n z):=by simp[gn]
theorem pv {l:List Int}{off:Nat}(h:off<l.length)(v:Int):cg (gn l) off [.int .i64 v]=gn (l.set off v):=by
 unfold cg gn;apply List.ext_getElem?;intro i;simp only[List.getElem?_map,List.getElem?_set,List.getElem?_append,List.length_append,List.length_take,List.length_map,List.length_cons,List.length_nil,List.getElem?_take,List.getElem?_drop];rw[Nat.min_eq_left ω]
 by_cases h1:i<off
 ·simp[h1,show i<off+1 by omega,show ¬off=i by omega]
 ·by_cases h2:i=off
  ·subst h2;simp[h]
  ·simp[h1,show ¬i<off+1 by omega,show ¬off=i by omega]
   congr 2
   omega
theorem bE (l:List Int)(n:Nat):(gn l).take n=gn (l.take n):=by simp[gn,List.map_take]
theorem bJ (l:List Int):bB.intsAC (gn l)=some l:=CX l
def gp {α:Type}[DecidableEq α](l:List α)(x:α):List α:=if x∈l then l else l++[x]
theorem gU {α:Type}[DecidableEq α]{l:List α}{x:α}(h:x∈l):gp l x=l:=by unfold gp;rw[if_pos h]
theorem gg {α:Type}[DecidableEq α]{l:List α}{x:α}(h:x∉l):gp l x=l++[x]:=by unfold gp;rw[if_neg h]
theorem rq {α:Type}[DecidableEq α]{l:List α}{t x:α}:x∈gp l t↔x∈l∨x=t:=by
 unfold gp;split
 ·rename_i h
  constructor
  ·exact .inl
  ·rintro(h1|rfl)
   ·exact h1
   ·exact h
 ·simp
theorem G8 {α:Type}[DecidableEq α]{r:List α}:∀ {l:List α} {x:α},x∈r.foldl gp l↔x∈l∨x∈r:=by
 induction r with
 |nil=>intro l x;simp
 |cons t r ih=>intro l x;simp only[List.foldl_cons,ih,rq,List.mem_cons];exact or_assoc
theorem CC {α:Type}[DecidableEq α]{l:List α}(h:l.Nodup)(x:α):(gp l x).Nodup:=by
 unfold gp;split
 ·exact h
 ·rename_i hx
  rw[List.nodup_append];refine⟨h,η,λa ha b hb=>?_⟩;simp at hb;subst hb;intro e;subst e;exact hx ha
theorem GI {α:Type}[DecidableEq α](r:List α):∀ l:List α,∃ k,r.foldl gp l=l++k:=by
 induction r with
 |nil=>intro l;exact⟨[],η⟩
 |cons t r ih=>
  intro l;obtain⟨k2,h2⟩:=ih (gp l t)
  by_cases h:t∈l
  ·rw[gU h] at h2
   exact⟨k2,by simp only[List.foldl_cons,gU h];exact h2⟩
  ·rw[gg h] at h2
   exact⟨t::k2,by simp only[List.foldl_cons,gg h];rw[h2];simp⟩
def et {α:Type}[DecidableEq α](f:Nat→α)(k:Nat):List α:=((List.range k).map f).foldl gp []
theorem f8 {α:Type}[DecidableEq α](f:Nat→α)(k:Nat):et f (k+1)=gp (et f k) (f k):=by
 unfold et;rw[List.range_succ,List.map_append,List.foldl_append];rfl
theorem ka {α:Type}[DecidableEq α]{f:Nat→α}{k:Nat}{x:α}:x∈et f k↔∃ i,i<k∧f i=x:=by
 unfold et;rw[G8];simp[List.mem_map,List.mem_range]
theorem vO {α:Type}[DecidableEq α](f:Nat→α):∀ k,(et f k).length≤k
 |0=>by simp[et]
 |k+1=>by
  rw[f8];have:=vO f k;unfold gp;split<;>simp<;>omega
def pos {α:Type}[DecidableEq α]:List α→α→Nat
 |[],_=>0
 |y::l,x=>if y=x then 0 else pos l x+1
theorem l5 {α:Type}[DecidableEq α]{x:α}:∀ {l:List α},x∈l→pos l x<l.length
 |[],h=>by cases h
 |y::l,h=>by
  simp only[pos];split
  ·simp
  ·rename_i e
   rcases List.mem_cons.1 h with h|h
   ·exact absurd h.symm e
   ·have:=l5 h
    simp;omega
theorem Dx {α:Type}[DecidableEq α]{x:α}:∀ {l:List α},x∉l→pos l x=l.length
 |[],_=>rfl
 |y::l,h=>by
  simp only[List.mem_cons,not_or] at h;simp only[pos];rw[if_neg (Ne.symm h.1),Dx h.2];rfl
theorem m8 {α:Type}[DecidableEq α]{x:α}:∀ {l:List α},x∈l→l[pos l x]? =some x
 |[],h=>by cases h
 |y::l,h=>by
  simp only[pos];split
  ·rename_i e;simp[e]
  ·rename_i e
   rcases List.mem_cons.1 h with h|h
   ·exact absurd h.symm e
   ·simpa using m8 h
theorem NH {α:Type}[DecidableEq α]{l:List α}{x y:α}(hx:x∈l)(hy:y∈l)(h:pos l x=pos l y):x=y:=by
 have h1:=m8 hx;have h2:=m8 hy;rw[h,h2] at h1;exact(Option.some.inj h1).symm
theorem jr {α:Type}[DecidableEq α]{x:α}:∀ {l:List α} (r:List α),x∈l→pos (l++r) x=pos l x
 |[],_,h=>by cases h
 |y::l,r,h=>by
  simp only[List.cons_append,pos];split
  ·rfl
  ·rename_i e
   rcases List.mem_cons.1 h with h|h
   ·exact absurd h.symm e
   ·rw[jr r h]
theorem rD {α:Type}[DecidableEq α]{x:α}{l:List α}(h:x∉l):pos (l++[x]) x=l.length:=by
 induction l with
 |nil=>simp[pos]
 |cons y l ih=>
  simp only[List.mem_cons,not_or] at h;simp only[List.cons_append,pos];rw[if_neg (Ne.symm h.1),ih h.2];rfl
theorem wG {α:Type}(f:Nat→α)(d:α){n i:Nat}(h:i<n):((List.range n).map f).getD i d=f i:=by simp[List.getD,h]
theorem sR {α:Type}[DecidableEq α](f:Nat→α){i k:Nat}(h:i<k):∀ n,k≤n→pos (et f n) (f i)=pos (et f k) (f i)
 |0,hn=>by omega
 |n+1,hn=>by
  by_cases e:k=n+1
  ·subst e;rfl
  ·rw[← sR f h n ω,f8]
   have hm:f i∈et f n:=ka.2 ⟨i,ω,rfl⟩;unfold gp;split
   ·rfl
   ·exact jr _ hm
def i5 (i:Int):List (List Int)→List (KV×Int)
 |[]=>[]
 |x::r=>(.arr x,i)::i5 (i+1) r
def tv (l:List (List Int)):List (KV×Int):=i5 0 l
theorem E3 (l:List (List Int)):∀ i,(i5 i l).length=l.length:=by
 induction l with
 |nil=>intro i;rfl
 |cons x l ih=>intro i;simp[i5,ih]
theorem yU (l:List (List Int)):(tv l).length=l.length:=E3 l 0
theorem Eh (l r:List (List Int)):∀ i,i5 i (l++r)=i5 i l++i5 (i+l.length) r:=by
 induction l with
 |nil=>intro i;simp[i5]
 |cons x l ih=>intro i;simp only[List.cons_append,i5,ih,List.length_cons];rw[show i+1+(l.length:Int)=i+((l.length+1:Nat):Int) by omega]
theorem BD (l:List (List Int))(x:List Int):∀ i,bD (i5 i l) (.arr x)=if x∈l then some (i+(pos l x:Int)) else none:=by
 induction l with
 |nil=>intro i;rfl
 |cons y l ih=>
  intro i;simp only[i5,bD]
  by_cases e:y=x
  ·subst e;simp[pos]
  ·rw[if_neg (by intro h;cases h;exact e rfl),ih]
   by_cases hm:x∈l
   ·rw[if_pos hm,if_pos (by simp[hm])]
    simp only[pos];rw[if_neg e]
    congr 1
    omega
   ·rw[if_neg hm,if_neg (by simp[hm,Ne.symm e])]
theorem iq (l:List (List Int))(x:List Int):bD (tv l) (.arr x)=if x∈l then some (pos l x:Int) else none:=by
 unfold tv;rw[BD];simp
theorem Ar {l:List (List Int)}{x:List Int}(h:x∉l):f0 (tv l) (.arr x) (l.length:Int)=tv (l++[x]):=by
 unfold f0;rw[iq,if_neg h];simp[tv,Eh,i5]
theorem ku {α:Type}[DecidableEq α]:∀ (l R:List α),l.Nodup→(∀ x,x∈l→x∈R)→l.length≤R.length
 |[],_,_,_=>by simp
 |x::l,R,h,hs=>by
  have hx:x∈R:=hs x η;rw[List.nodup_cons] at h;have h1:=ku l (R.erase x) h.2 λy hy=>by
   have hne:y≠x:=λe=>h.1 (e▸hy);exact(List.mem_erase_of_ne hne).2 (hs y (by simp[hy]))
  have h2:(R.erase x).length+1=R.length:=by
   rw[List.length_erase,if_pos (by simpa using hx)];have:0<R.length:=List.length_pos_of_mem hx;omega
  simp only[List.length_cons];omega
open Go Go.RowKit in
theorem iu {C:Ctx}{Q:Exit→St→Prop}{s:St}{c:Code}(k:Nat){ob:AO}(hk:s.L[k]? =some ob)(h:AWP C c Q {env:=s.env,L:=s.L.set k (.dead ob.ver)}):AWP C c Q s:=by
 intro σ a w hr;have hlt:k<s.L.length:=(Δ.1 hk).1;have hI:=d8 (C:=C) (L':=s.L.set k (.dead ob.ver)) (σ':=σ) (w':=w) k hr.inv (Υ _) rfl rfl rfl (λ_ _ _=>rfl) (λj hj=>by rw[List.getElem?_set_ne (Ne.symm hj)]) (λ_ _=>rfl)
  (λob' e=>by rw[hk] at e;cases e;exact⟨.dead ob.ver,by simp[hlt],Υ _,λh=>by cases h⟩)
  (λb ⟨ob',e1,e2,_⟩=>by simp[hlt] at e1;subst e1;cases e2)
  (λ_ _ ob' e=>by simp[hlt] at e;subst e;trivial)
 exact h σ a w ⟨hI.1,λt=>hI.2.rv (hr.env t),hr.size,hr.defers,hr.pres.trans hI.2⟩
open Go Go.RowKit in
theorem jx {C:Ctx}{Q:Exit→St→Prop}{s:St}{c:Code}{L1:List AO}{ob:AO}(hL:s.L=L1++[ob])(hB:C.bL=[])(he:s.env.all (λx=>fQ L1.length x.2)=true)(ho:L1.all (cr L1.length)=true)
 (h:AWP C c Q {env:=s.env,L:=L1}):AWP C c Q s:=by
 refine iu L1.length (ob:=ob) (by rw[hL];simp) ?_;refine dO (L1:=L1) (ver:=ob.ver) (n:=L1.length) ?_ rfl (by rw[hB];exact Nat.zero_le _) he ho h;show s.L.set L1.length _=_;rw[hL,List.set_append];simp
def dH (e:Go.TypeId)(f:Nat→List Bool)(n:Nat):List AO:=(List.range n).map λs=>.row .bool e 0 (f s)
def gcs (n:Nat):List AC:=(List.range n).map λs=>.row (s+1+1+1+1) 0
theorem bM (c:AC):∀ n,rep [c] n=List.replicate n c
 |0=>rfl
 |n+1=>by simp[rep,bM c n,List.replicate_succ]
section
variable {e:Go.TypeId} {f:Nat→List Bool} {n i:Nat} {X:List AO} {x:AO}
theorem aW:(dH e f n).length=n:=by simp[dH]
theorem bU:(gcs n).length=n:=by simp[gcs]
theorem CA:dH e f (n+1)=dH e f n++[.row .bool e 0 (f n)]:=by simp[dH,List.range_succ]
theorem D4 (h:i<n):(gcs n).getD i .junk= .row (i+1+1+1+1) 0:=by simp[gcs,List.getD,h]
theorem ET (h:i<n):(dH e f n++X)[i]? =some (.row .bool e 0 (f i)):=by
 rw[List.getElem?_append_left (by rw[aW];exact h)];simp[dH,h]
theorem Ei (h:i<n):(dH e f n)[i]? =some (.row .bool e 0 (f i)):=by simp[dH,h]
theorem bp:(dH e f n++X)[n]? =X[0]?:=by rw[List.getElem?_append_right (by rw[aW];exact Υ _),aW,Nat.sub_self]
theorem bj:(dH e f n++X)[n+1]? =X[1]?:=by rw[List.getElem?_append_right (by rw[aW];omega),aW];congr 1;omega
theorem bg:(dH e f n++X)[n+1+1]? =X[2]?:=by rw[List.getElem?_append_right (by rw[aW];omega),aW];congr 1;omega
theorem bn:(dH e f n++X).set n x=dH e f n++X.set 0 x:=by rw[List.set_append,aW];simp
theorem bc:(dH e f n++X).set (n+1) x=dH e f n++X.set 1 x:=by rw[List.set_append,aW,if_neg ω,show n+1-n=1 by omega]
theorem bb:(dH e f n++X).set (n+1+1) x=dH e f n++X.set 2 x:=by rw[List.set_append,aW,if_neg ω,show n+1+1-n=2 by omega]
theorem qY {g:Nat→List Bool}{ys:List Bool}(h:i<n)(h1:g i=ys)(h2:∀ j,j<n→j≠i→g j=f j):(dH e f n).set i (.row .bool e 0 ys)=dH e g n:=by
 unfold dH;apply List.ext_getElem?;intro j;rw[List.getElem?_set,List.getElem?_map,List.getElem?_map]
 by_cases e1:i=j
 ·subst e1;simp[h,h1]
 ·rw[if_neg e1]
  by_cases hj:j<n
  ·simp[hj,h2 j hj (Ne.symm e1)]
  ·simp[List.getElem?_eq_none,hj]
theorem Ce {g:Nat→List Bool}{ys:List Bool}(h:i<n)(h1:g i=ys)(h2:∀ j,j<n→j≠i→g j=f j):(dH e f n++X).set i (.row .bool e 0 ys)=dH e g n++X:=by
 rw[List.set_append,if_pos (by rw[aW];exact h),qY h h1 h2]
theorem nj {N:Nat}:(dH e f n).all (cr N)=true:=by simp[dH,cr]
theorem sZ {N:Nat}(h:n+4≤N):(gcs n).all (bY N)=true:=by
 rw[List.all_eq_true];intro c hc;simp only[gcs,List.mem_map,List.mem_range] at hc;obtain⟨j,hj,rfl⟩:=hc;simp only[bY,decide_eq_true_eq];omega
end
def shF (k:Nat)(f:Go.FuncId)(ds:List ((t:Ty)×t.den)):AV→AV
 | .one (.ptr k' 0 0 0)=>if k'=k then .one (.pfn f ds) else .one (.ptr k' 0 0 0)
 |v=>v
open Go Go.RowKit in
theorem uj {C:Ctx}{Q:Exit→St→Prop}{s:St}{c:Code}(k:Nat){T:TypeId}(f:FuncId)(ds:List ((t:Ty)×t.den))(hk:s.L[k]? =some (.vars T [.fn f (ds.map λp=>.pat p.1 p.2)]))
 (h:AWP C c Q {env:=s.env.map λx=>(x.1,shF k f ds x.2),L:=s.L.set k (.dead 0)}):AWP C c Q s:=by
 intro σ a w hr;have hlt:k<s.L.length:=(Δ.1 hk).1;have hI:=d8 (C:=C) (L':=s.L.set k (.dead 0)) (σ':=σ) (w':=w) k hr.inv (Υ _) rfl rfl rfl (λ_ _ _=>rfl) (λj hj=>by rw[List.getElem?_set_ne (Ne.symm hj)]) (λ_ _=>rfl)
  (λob e=>by rw[hk] at e;cases e;exact⟨.dead 0,by simp[hlt],Υ _,λh=>by cases h⟩)
  (λb ⟨ob,e1,e2,_⟩=>by simp[hlt] at e1;subst e1;cases e2)
  (λ_ _ ob e=>by simp[hlt] at e;subst e;trivial)
 refine h σ a w ⟨hI.1,λt'=>?_,hr.size,hr.defers,hr.pres.trans hI.2⟩;show RV C _ σ w (lkp _ t') _;rw[sI (shF k f ds) rfl];have h1:=hr.env t';have h2:=hI.2.rv h1;unfold shF;split
 ·rename_i k' hv
  split
  ·rename_i ek;subst ek
   rw[hv] at h1;obtain⟨h3,ob,h4,_,h6⟩:=h1;rw[hk] at h4;cases h4;obtain⟨b,hb1,hb2⟩:=h6 rfl rfl;obtain⟨b',vs,e1,e2,e3⟩:=hr.inv.ob k' _ hk;have eb:b'=b:=by rw[e1] at hb1;simpa [blk] using hb1
   subst eb;have hown:own s.L σ k' b':=⟨_,hk,rfl,hb1⟩
   obtain⟨u,rfl,hu⟩:=e3.one;obtain⟨_,us,hfu,hall⟩:=hI.2 _ _ hu;refine⟨h3,b',0,us,by rw[hb2];simp[AO.esize],?_,(Array.getElem?_eq_some_iff.1 e2).1,by rw[ee e2,hfu];rfl,?_⟩
   ·rintro(hx|⟨j,ob,q1,q2,q3⟩)
    ·exact(hr.inv.off k' b' hown).2 hx
    ·by_cases ej:j=k'
     ·subst ej;simp[hlt] at q1;subst q1;cases q2
     ·rw[List.getElem?_set_ne (Ne.symm ej)] at q1
      exact ej (hr.inv.inj j k' b' ⟨ob,q1,q2,q3⟩ hown)
   ·have:∀ (ds:List ((t:Ty)×t.den)) (vs:List Value),bv (qP C (s.L.set k' (.dead 0)) σ w) (ds.map λp=>.pat p.1 p.2) vs→bv (λp u=>u.oneCell'=true∧kQ C (s.L.set k' (.dead 0)) σ w p.1 p.2 0 u) ds vs:=by
     intro ds
     induction ds with
     |nil=>intro vs h;cases vs with|nil=>trivial|cons _ _=>exact h.elim
     |cons p ds ih=>
      intro vs h
      cases vs with
      |nil=>exact h.elim
      |cons v vs=>exact⟨h.1,ih vs h.2⟩
    exact this ds us hall
  ·rw[hv] at h2;exact h2
 ·exact h2
open Go Go.RowKit in
theorem jv {P:Program}{L0:List AO}{f:FuncId}{args args':List AV}{r:AV}(he:args.map (fzV L0)=args')(hnt:args.all Mg=true)(h:aY P f args' r)(hs:GA r=true):cS P L0 f args {av:=r,fp:=args.flatMap fpV}:=
 Gk hnt (by rw[he];exact h) hs
open Go Go.RowKit in
theorem du {C:Ctx}{Q:Exit→St→Prop}{s:St}{c:Code}(h:AWP C c Q {env:=s.env,L:=s.L++[.dead 0]}):AWP C c Q s:=by
 intro σ a w hr;have hd:=eE (C:=C) (L:=s.L) (σ:=σ) (w:=w) (w':=w) (v:=.undef) (fp:=[]) (u:=undef) (g:=undef) (ob:=.dead 0) hr.inv (Υ _) rfl rfl rfl (λ_ _=>rfl) (λb hb=>by cases hb) (λ_=>trivial) trivial;obtain⟨σ',d1,_,d3⟩:=hd;have happ:app s.L {av:=.undef,new:=[.dead 0],fp:=[]}=s.L++[.dead 0]:=rfl;rw[happ] at d1 d3;exact h σ' a w ⟨d1,λt=>d3.rv (hr.env t),hr.size,hr.defers,hr.pres.trans d3⟩
def tQ (f:Nat→Nat)(t:List Nat×List Nat×Nat):List Nat×List Nat×Nat:=(t.1.map f,t.2.1.map f,t.2.2)
section
variable {f:Nat→Nat} (hf:∀ x y,f x=f y→x=y)
include hf
theorem tg {a b:List Nat}(h:nM a b=true):nM (a.map f) (b.map f)=true:=by
 refine List.all_eq_true.2 λx hx=>?_;obtain⟨u,hu,rfl⟩:=List.mem_map.1 hx;have:=i9 h hu;simp only[Bool.not_eq_true',List.contains_eq_mem,decide_eq_false_iff_not];intro hm;obtain⟨v,hv,e⟩:=List.mem_map.1 hm;exact this (hf v u e▸hv)
theorem Fi {ops:List Go.Oper}{oi oj:Go.Oper}{ti tj:List Nat×List Nat×Nat}(h:gC ops oi oj ti tj=true):gC ops oi oj (tQ f ti) (tQ f tj)=true:=by
 simp only[gC,Bool.and_eq_true,tQ] at*;obtain⟨⟨⟨⟨⟨h1,h2⟩,h3⟩,h4⟩,h5⟩,h6⟩:=h;exact⟨⟨⟨⟨⟨h1,h2⟩,h3⟩,tg hf h4⟩,tg hf h5⟩,tg hf h6⟩
theorem ue {ops:List Go.Oper}{mask:Nat}{oj:Go.Oper}{tj:List Nat×List Nat×Nat}:∀ {i:Nat} {os:List Go.Oper} {ts:Tr},gq ops mask oj tj i os ts=true→gq ops mask oj (tQ f tj) i os (ts.map (tQ f))=true
 |_,[],_,_=>rfl
 |i,oi::os,t::ts,h=>by
  simp only[gq,List.map_cons,Bool.and_eq_true,Bool.or_eq_true] at*;refine⟨?_,ue h.2⟩;rcases h.1 with h1|h1
  ·exact .inl h1
  ·exact .inr (Fi hf h1)
 |_,_::_,[],h=>by cases h
theorem tK {ops:List Go.Oper}{tr:Tr}{masks:List Nat}:∀ {j:Nat} {os:List Go.Oper} {ts:Tr},i8 ops tr masks j os ts=true→i8 ops (tr.map (tQ f)) masks j os (ts.map (tQ f))=true
 |_,[],[],_=>rfl
 |j,o::os,t::ts,h=>by
  simp only[i8,List.map_cons,Bool.and_eq_true] at*;refine⟨⟨h.1.1,?_⟩,tK h.2⟩;rw[← List.map_take];exact ue hf h.1.2
 |_,[],_::_,h=>by cases h
 |_,_::_,[],h=>by cases h
theorem j7 {ops:List Go.Oper}(tr:Tr)(h:mK ops tr=true):mK ops (tr.map (tQ f))=true:=tK hf h
end
def cdf (n k:Nat):Nat:=if k<4 then k else n+k
theorem MW (n:Nat):∀ x y,cdf n x=cdf n y→x=y:=by
 intro x y h;unfold cdf at h;split at h<;>split at h<;>omega
def frC (k ver:Nat)(t:Ty)(xs:List t.den):AC→AC
 | .row k' v=>if k'=k∧v=ver then .list t xs else .row k' v
 |c=>c
open Go Go.RowKit in
theorem eI {C:Ctx}{Q:Exit→St→Prop}{s:St}{c:Code}(k m:Nat){t:Ty}{e T:TypeId}{ver:Nat}{xs:List t.den}{cs:List AC}(hk:s.L[k]? =some (.row t e ver xs))(hm:s.L[m]? =some (.vars T cs))
 (h:AWP C c Q {env:=s.env.map λx=>(x.1,match x.2 with| .one (.row k' v)=>if k'=k∧v=ver then .one (.list t xs) else .one (.row k' v)|v=>v),L:=(s.L.set k (.dead ver)).set m (.vars T (cs.map (frC k ver t xs)))}):AWP C c Q s:=by
 intro σ a w hr;have hkm:m≠k:=by rintro rfl;rw[hk] at hm;cases hm
 have hlt:k<s.L.length:=(Δ.1 hk).1;have hltm:m<s.L.length:=(Δ.1 hm).1;have hI:=d8 (C:=C) (L':=s.L.set k (.dead ver)) (σ':=σ) (w':=w) k hr.inv (Υ _) rfl rfl rfl (λ_ _ _=>rfl) (λj hj=>by rw[List.getElem?_set_ne (Ne.symm hj)]) (λ_ _=>rfl)
  (λob e=>by rw[hk] at e;cases e;exact⟨.dead ver,by simp[hlt],Υ _,λh=>by cases h⟩)
  (λb ⟨ob,e1,e2,_⟩=>by simp[hlt] at e1;subst e1;cases e2)
  (λ_ _ ob e=>by simp[hlt] at e;subst e;trivial)
 have key:∀ u,RC C s.L σ w (.row k ver) u→RC C (s.L.set k (.dead ver)) σ w (.list t xs) u:=by
  intro u h1;obtain⟨h3,ob,h4,h5,h6⟩:=h1;rw[hk] at h4;cases h4;obtain⟨_,h7⟩:=h6 rfl rfl;refine⟨h3,?_⟩;obtain⟨flat,h8,h9,h10⟩:=hr.inv.ob k _ hk;show Dat _ w (.list t) xs [_];rw[h7];have hown:∀ b,avd C (s.L.set k (.dead ver)) σ b→avd C s.L σ b:=by
   rintro b (hx|⟨j,ob,e1,e2,e3⟩)
   ·exact .inl hx
   ·by_cases ej:j=k
    ·subst ej;simp[hlt] at e1;subst e1;cases e2
    ·rw[List.getElem?_set_ne (Ne.symm ej)] at e1
     exact .inr ⟨j,ob,e1,e2,e3⟩
  rcases h8.2 with⟨e1,e2⟩|⟨g,cap,cur,e1,_,e3,e4,e5,e6,e7⟩
  ·rw[e1]
   have:xs=[]:=List.eq_nil_of_length_eq_zero e2;subst this;exact fA t
  ·rw[e1]
   refine⟨some ⟨g,0,none⟩,cap,rfl,e4,⟨e5,λh=>by cases h⟩,λ_=>⟨g,0,rfl,?_,(Array.getElem?_eq_some_iff.1 e3).1,λi hi=>⟨_,(h10 i hi).length,λj hj=>?_,(h10 i hi).keep (Υ _) (λ_ _ _=>rfl) (λb _ hb=>hown b hb)⟩⟩⟩
   ·have hg:own s.L σ k g:=⟨_,hk,rfl,by rw[e1];rfl⟩
    rintro(hx|⟨j,ob,q1,q2,q3⟩)
    ·exact(hr.inv.off k g hg).2 hx
    ·by_cases ej:j=k
     ·subst ej;simp[hlt] at q1;subst q1;cases q2
     ·rw[List.getElem?_set_ne (Ne.symm ej)] at q1
      exact ej (hr.inv.inj j k g ⟨ob,q1,q2,q3⟩ hg)
   ·have hm:(i+1)*t.size≤xs.length*t.size:=Nat.mul_le_mul_right _ hi
    rw[Nat.add_mul,Nat.one_mul] at hm;rw[ee e3,List.getElem?_take_of_lt hj,List.getElem?_drop,← e7,List.getElem?_take_of_lt ω];simp
 have hcell:∀ c u,RC C s.L σ w c u→RC C (s.L.set k (.dead ver)) σ w (frC k ver t xs c) u:=by
  intro c u hc
  cases c with
  |row k' v=>
   simp only[frC];split
   ·rename_i hh;obtain⟨rfl,rfl⟩:=hh;exact key u hc
   ·exact hI.2 _ _ hc
  |_=>exact hI.2 _ _ hc
 have hm1:(s.L.set k (.dead ver))[m]? =some (.vars T cs):=by rw[List.getElem?_set_ne (Ne.symm hkm)];exact hm
 have hI2:=d8 (C:=C) (L':=(s.L.set k (.dead ver)).set m (.vars T (cs.map (frC k ver t xs)))) (σ':=σ) (w':=w) m hI.1 (Υ _) rfl rfl rfl (λ_ _ _=>rfl) (λj hj=>by rw[List.getElem?_set_ne (Ne.symm hj)]) (λ_ _=>rfl)
  (λob e=>by rw[hm1] at e;cases e;exact⟨.vars T (cs.map (frC k ver t xs)),by simp[hltm],Υ _,λ_ _=>⟨rfl,rfl,rfl,trivial⟩⟩)
  (λb ⟨ob,e1,e2,e3⟩=>.inl ⟨.vars T cs,hm1,rfl,e3⟩)
  (λhp _ ob e=>by
    simp[hltm] at e;subst e;obtain⟨b,vs,q1,q2,q3⟩:=hr.inv.ob m _ hm;exact⟨b,vs,q1,q2,q3.mapL λc u hc=>hp _ _ (hcell c u hc)⟩)
 refine h σ a w ⟨hI2.1,λt'=>?_,hr.size,hr.defers,(hr.pres.trans hI.2).trans hI2.2⟩;have hlook:∀ env:Env,lkp (env.map λx=>(x.1,match x.2 with| .one (.row k' v)=>if k'=k∧v=ver then AV.one (.list t xs) else .one (.row k' v)|v=>v)) t'=
  match lkp env t' with| .one (.row k' v)=>if k'=k∧v=ver then AV.one (.list t xs) else .one (.row k' v)|v=>v:=by
  intro env
  induction env with
  |nil=>rfl
  |cons x env ih=>
   obtain⟨n,v⟩:=x;simp only[List.map_cons,lkp]
   by_cases e:t'=n
   ·simp only[e,if_true]
   ·simp only[e,if_false];exact ih
 show RV C _ σ w (lkp _ t') _;rw[hlook];have h1:=hr.env t';have h2:=hI2.2.rv (hI.2.rv h1);split
 ·rename_i k' v hv
  split
  ·rename_i hkv
   obtain⟨rfl,rfl⟩:=hkv;rw[hv] at h1;exact hI2.2 _ _ (key _ h1)
  ·rw[hv] at h2;exact h2
 ·exact h2
open Go Go.RowKit in
theorem j4 {C:Ctx}{Q:Exit→St→Prop}{s:St}{c:Code}(k m:Nat){t:Ty}{e T:TypeId}{ver sz v9:Nat}{xs:List t.den}{cs:List AC}(hk:s.L[k]? =some (.row t e ver xs))(hm:s.L[m]? =some (.rowc T sz v9 cs))
 (h:AWP C c Q {env:=s.env.map λx=>(x.1,match x.2 with| .one (.row k' v)=>if k'=k∧v=ver then .one (.list t xs) else .one (.row k' v)|v=>v),L:=(s.L.set k (.dead ver)).set m (.rowc T sz v9 (cs.map (frC k ver t xs)))}):AWP C c Q s:=by
 intro σ a w hr;have hkm:m≠k:=by rintro rfl;rw[hk] at hm;cases hm
 have hlt:k<s.L.length:=(Δ.1 hk).1;have hltm:m<s.L.length:=(Δ.1 hm).1;have hI:=d8 (C:=C) (L':=s.L.set k (.dead ver)) (σ':=σ) (w':=w) k hr.inv (Υ _) rfl rfl rfl (λ_ _ _=>rfl) (λj hj=>by rw[List.getElem?_set_ne (Ne.symm hj)]) (λ_ _=>rfl)
  (λob e=>by rw[hk] at e;cases e;exact⟨.dead ver,by simp[hlt],Υ _,λh=>by cases h⟩)
  (λb ⟨ob,e1,e2,_⟩=>by simp[hlt] at e1;subst e1;cases e2)
  (λ_ _ ob e=>by simp[hlt] at e;subst e;trivial)
 have key:∀ u,RC C s.L σ w (.row k ver) u→RC C (s.L.set k (.dead ver)) σ w (.list t xs) u:=by
  intro u h1;obtain⟨h3,ob,h4,h5,h6⟩:=h1;rw[hk] at h4;cases h4;obtain⟨_,h7⟩:=h6 rfl rfl;refine⟨h3,?_⟩;obtain⟨flat,h8,h9,h10⟩:=hr.inv.ob k _ hk;show Dat _ w (.list t) xs [_];rw[h7];have hown:∀ b,avd C (s.L.set k (.dead ver)) σ b→avd C s.L σ b:=by
   rintro b (hx|⟨j,ob,e1,e2,e3⟩)
   ·exact .inl hx
   ·by_cases ej:j=k
    ·subst ej;simp[hlt] at e1;subst e1;cases e2
    ·rw[List.getElem?_set_ne (Ne.symm ej)] at e1
     exact .inr ⟨j,ob,e1,e2,e3⟩
  rcases h8.2 with⟨e1,e2⟩|⟨g,cap,cur,e1,_,e3,e4,e5,e6,e7⟩
  ·rw[e1]
   have:xs=[]:=List.eq_nil_of_length_eq_zero e2;subst this;exact fA t
  ·rw[e1]
   refine⟨some ⟨g,0,none⟩,cap,rfl,e4,⟨e5,λh=>by cases h⟩,λ_=>⟨g,0,rfl,?_,(Array.getElem?_eq_some_iff.1 e3).1,λi hi=>⟨_,(h10 i hi).length,λj hj=>?_,(h10 i hi).keep (Υ _) (λ_ _ _=>rfl) (λb _ hb=>hown b hb)⟩⟩⟩
   ·have hg:own s.L σ k g:=⟨_,hk,rfl,by rw[e1];rfl⟩
    rintro(hx|⟨j,ob,q1,q2,q3⟩)
    ·exact(hr.inv.off k g hg).2 hx
    ·by_cases ej:j=k
     ·subst ej;simp[hlt] at q1;subst q1;cases q2
     ·rw[List.getElem?_set_ne (Ne.symm ej)] at q1
      exact ej (hr.inv.inj j k g ⟨ob,q1,q2,q3⟩ hg)
   ·have hm:(i+1)*t.size≤xs.length*t.size:=Nat.mul_le_mul_right _ hi
    rw[Nat.add_mul,Nat.one_mul] at hm;rw[ee e3,List.getElem?_take_of_lt hj,List.getElem?_drop,← e7,List.getElem?_take_of_lt ω];simp
 have hcell:∀ c u,RC C s.L σ w c u→RC C (s.L.set k (.dead ver)) σ w (frC k ver t xs c) u:=by
  intro c u hc
  cases c with
  |row k' v=>
   simp only[frC];split
   ·rename_i hh;obtain⟨rfl,rfl⟩:=hh;exact key u hc
   ·exact hI.2 _ _ hc
  |_=>exact hI.2 _ _ hc
 have hm1:(s.L.set k (.dead ver))[m]? =some (.rowc T sz v9 cs):=by rw[List.getElem?_set_ne (Ne.symm hkm)];exact hm
 have hI2:=d8 (C:=C) (L':=(s.L.set k (.dead ver)).set m (.rowc T sz v9 (cs.map (frC k ver t xs)))) (σ':=σ) (w':=w) m hI.1 (Υ _) rfl rfl rfl (λ_ _ _=>rfl) (λj hj=>by rw[List.getElem?_set_ne (Ne.symm hj)]) (λ_ _=>rfl)
  (λob e=>by rw[hm1] at e;cases e;exact⟨.rowc T sz v9 (cs.map (frC k ver t xs)),by simp[hltm],Υ _,λ_ _=>⟨rfl,rfl,rfl,_,rfl⟩⟩)
  (λb ⟨ob,e1,e2,e3⟩=>.inl ⟨.rowc T sz v9 cs,hm1,rfl,e3⟩)
  (λhp _ ob e=>by
    simp[hltm] at e;subst e;obtain⟨vs,n,q1,q2,q5,q3⟩:=hr.inv.ob m _ hm;exact⟨vs,n,q1,q2,by simpa using q5,q3.mapL λc u hc=>hp _ _ (hcell c u hc)⟩)
 refine h σ a w ⟨hI2.1,λt'=>?_,hr.size,hr.defers,(hr.pres.trans hI.2).trans hI2.2⟩;have hlook:∀ env:Env,lkp (env.map λx=>(x.1,match x.2 with| .one (.row k' v)=>if k'=k∧v=ver then AV.one (.list t xs) else .one (.row k' v)|v=>v)) t'=
  match lkp env t' with| .one (.row k' v)=>if k'=k∧v=ver then AV.one (.list t xs) else .one (.row k' v)|v=>v:=by
  intro env
  induction env with
  |nil=>rfl
  |cons x env ih=>
   obtain⟨n,v⟩:=x;simp only[List.map_cons,lkp]
   by_cases e:t'=n
   ·simp only[e,if_true]
   ·simp only[e,if_false];exact ih
 show RV C _ σ w (lkp _ t') _;rw[hlook];have h1:=hr.env t';have h2:=hI2.2.rv (hI.2.rv h1);split
 ·rename_i k' v hv
  split
  ·rename_i hkv
   obtain⟨rfl,rfl⟩:=hkv;rw[hv] at h1;exact hI2.2 _ _ (key _ h1)
  ·rw[hv] at h2;exact h2
 ·exact h2
section
variable {C C':Ctx} {L L':List AO} {σ σ':Sig} {w:World}
end
section
variable {C C':Ctx} {L L':List AO} {σ σ':Sig} {w:World}
end
end Go.AV
