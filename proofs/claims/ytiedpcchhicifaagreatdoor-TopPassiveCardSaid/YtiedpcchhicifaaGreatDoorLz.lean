/- Part of the proof. -/
import Derived.Test.YtiedpcchhicifaaGreatDoorLy
import Derived.Shelf.Slices.CompactI
set_option linter.unusedSimpArgs false
set_option linter.unusedVariables false
open List renaming getElem?_eq_some_iff→Δ
open Nat renaming le_refl→Υ
namespace Go.AV
open Go Go.RowKit Go.Sort
section
variable {C C':Ctx} {L:List AO} {σ:Sig} {w:World}
theorem qb (hX:C'.X=C.X):avd C' L σ=avd C L σ:=by funext b;simp only[avd,hX]
theorem sC (hX:C'.X=C.X): @kQ C' L σ w= @kQ C L σ w:=by funext t d off v;simp only[kQ,qb hX]
theorem Dg (hX:C'.X=C.X):RFN C' L σ w=RFN C L σ w:=by funext f ds v;simp only[RFN,qb hX,sC hX]
theorem Lu (hX:C'.X=C.X):qP C' L σ w=qP C L σ w:=by
 funext c u;cases c<;>simp only[qP,sC hX,Dg hX]
theorem v6 (hX:C'.X=C.X):RC C' L σ w=RC C L σ w:=by
 funext c u;cases c<;>simp only[RC,RC0,qb hX,sC hX,Dg hX,Lu hX]
theorem PN (hX:C'.X=C.X):RV1 C' L σ w=RV1 C L σ w:=by
 funext c u;cases c<;>simp only[RV1,v6 hX]
theorem I0 (hX:C'.X=C.X):RV C' L σ w=RV C L σ w:=by
 funext c u;cases c<;>simp only[RV,PN hX]
theorem JJ (hX:C'.X=C.X)(hP:C'.P=C.P)(o:Nat)(ob:AO):OB C' L σ w o ob=OB C L σ w o ob:=by
 cases ob<;>simp only[OB,v6 hX,qb hX,hP]
end
theorem fl {P:Program}{f:FuncId}{fn:Func}{c:Code}{args:List AV}(L0:List AO)(out:Out)(hf:P.funcs[f]? =some fn)(hb:fn.body=some c)(hname:(fn.name == "runtime.NumGoroutine")=false)(hn:args.length≤fn.ntmps)
 (hfp:∀ k,k<L0.length→k∈out.fp)
 (h:∀ C,C.P=P→C.N=fn.ntmps→C.bL=L0→AWP C c (qZ P fn λs' v=>s'.L=app L0 out∧v=out.av) {env:=cm 0 args,L:=L0}):cS P L0 f args out:=by
 refine⟨⟨fn,hf,hname,by rw[hb];rfl⟩,λC L σ w vs hP hI ha hfp2 hlen=>?_⟩;have hL:L=L0:=List.ext_getElem? λk=>by
  by_cases hk:k<L0.length
  ·exact hfp2 k (hfp k hk)
  ·rw[List.getElem?_eq_none ω,List.getElem?_eq_none ω]
 subst hL
 let C2:Ctx:={P:=P,X:=C.X,keep:=λb=>b<w.heap.size∧¬ ∃ o,own L σ o b,w0:=w,N:=fn.ntmps,bL:=L,bσ:=σ,bw:=w}
 have hX:C2.X=C.X:=rfl;have hP2:C2.P=C.P:=hP.symm;have hI2:INV C2 L σ w:=⟨λo ob e=>by rw[JJ hX hP2];exact hI.ob o ob e,hI.inj,λo b ho=>⟨λhk=>hk.2 ⟨o,ho⟩,(hI.off o b ho).2⟩,λb hb=>⟨hb.1,rfl⟩,λb hb=>Nat.lt_of_lt_of_le (hI.xlt b hb) hI.size,Υ _,rfl,rfl,rfl⟩
 have hargs:bv (RV C2 L σ w) args vs:=by rw[I0 hX];exact ha
 have hl:=hargs.length;refine(calls_of_wp hf hb (P:=P) (R:=λe w'=>∃ (s':St) (σ':Sig) (v:AV) (u:Value),e= .returned u∧(s'.L=app L out∧v=out.av)∧INV C2 s'.L σ' w'∧RV C2 s'.L σ' w' v u∧eB C2 L σ w s'.L σ' w')
  (wp_mono (h C2 rfl rfl rfl σ _ w ⟨hI2,λt=>?_,by simp[C2];omega,rfl,eB.refl _ _ _ _⟩) λe a' w' ⟨s',σ',h1,h2⟩=>?_)).mono λe w' hh=>?_
 ·rw[kT,if_pos (Nat.zero_le _),Nat.sub_zero]
  cases ht:args[t]? with
  |none=>trivial
  |some a=>
   obtain⟨u,hu,hru⟩:=hargs.at_ ht;have:(vs.toArray++Array.replicate (fn.ntmps-vs.toArray.size) undef).getD t undef=u:=by
    have htl:t<vs.length:=(Δ.1 hu).1;simp only[Array.getD_eq_getD_getElem?];rw[Array.getElem?_append_left (by simpa using htl)];simp[hu]
   rw[this];exact hru
 ·obtain⟨he,v,hv,hR⟩:=h1
  obtain⟨u,hu,hru⟩:=oh h2 hv;have hfin:a'.defers=[]∧∃ v,(results fn a'.tmps).run P w'= .ok v w'∧∃ (s':St) (σ':Sig) (v':AV) (u:Value),Ending.returned v= .returned u∧(s'.L=app L out∧v'=out.av)∧INV C2 s'.L σ' w'∧RV C2 s'.L σ' w' v' u∧eB C2 L σ w s'.L σ' w':=
   ⟨h2.defers,u,hu,s',σ',v,u,rfl,hR,h2.inv,hru,h2.pres⟩
  rcases he with rfl|rfl
  ·exact hfin
  ·exact hfin
 ·obtain⟨s',σ',v,u,rfl,⟨hLf,rfl⟩,h1,h2,h3⟩:=hh
  rw[hLf] at h1 h2 h3;refine⟨u,rfl,σ',⟨λo ob e=>?_,h1.inj,λo b ho=>?_,λb hb=>?_,hI.xlt,Nat.le_trans hI.size h1.size,h1.os.trans hI.os,h1.tape.trans hI.tape,h1.output.trans hI.output⟩,?_,?_⟩
  ·have:=h1.ob o ob e
   rw[JJ hX hP2] at this;exact this
  ·obtain⟨g1,g2⟩:=h1.off o b ho
   refine⟨λhk=>?_,g2⟩;have hlt:=(hI.kept b hk).1;have hsz:=hI.size;have hno:¬ ∃ o,own L σ o b:=fun⟨o',ho'⟩=>(hI.off o' b ho').1 hk;exact g1 ⟨Nat.lt_of_lt_of_le hlt hsz,hno⟩
  ·have hk:=hI.kept b hb
   have hno:¬ ∃ o,own L σ o b:=fun⟨o',ho'⟩=>(hI.off o' b ho').1 hb;have:=(h1.kept b ⟨Nat.lt_of_lt_of_le hk.1 hI.size,hno⟩).2;exact⟨hk.1,this.trans hk.2⟩
  ·rw[I0 hX] at h2;exact h2
  ·intro c u hc
   have:=h3 c u (by rw[v6 hX];exact hc);rw[v6 hX] at this;exact this
theorem eX {C:Ctx}{Q:Exit→St→Prop}{s:St}{c:Code}{L1:List AO}{ob:AO}(hL:s.L=L1++[ob])(hB:C.bL.length≤L1.length)(he:s.env.all (λx=>fQ L1.length x.2)=true)(ho:L1.all (cr L1.length)=true)
 (h:AWP C c Q {env:=s.env,L:=L1}):AWP C c Q s:=by
 refine iu L1.length (ob:=ob) (by rw[hL];simp) ?_;refine dO (L1:=L1) (ver:=ob.ver) (n:=L1.length) ?_ rfl hB he ho h;show s.L.set L1.length _=_;rw[hL,List.set_append];simp
section
variable {C C':Ctx} {L L':List AO} {σ σ':Sig} {w:World} {n:Nat}
theorem zn (ha:∀ b,b<w.heap.size→avd C' L' σ' b→avd C L σ b){t:Ty}{d:t.den}{off:Nat}{u:Value}(h:kQ C L σ w t d off u):kQ C' L' σ' w t d off u:=by
 obtain⟨b,o,cs,e,h1,h2,h3,h4⟩:=h;exact⟨b,o,cs,e,λhx=>h1 (ha b h2 hx),h2,h3,h4.keep (Υ _) (λ_ _ _=>rfl) ha⟩
theorem qo (ha:∀ b,b<w.heap.size→avd C' L' σ' b→avd C L σ b)(hL:∀ k,k<n→L'[k]? =L[k]?)(hσ:∀ k,k<n→σ' k=σ k){c:AC}{u:Value}(hf:bY n c=true)(h:RC C L σ w c u):RC C' L' σ' w c u:=by
 obtain⟨h1,h2⟩:=h;refine⟨h1,?_⟩;have hRP:∀ k ver i off u,k<n→RP L σ k ver i off u→RP L' σ' k ver i off u:=by
  rintro k ver i off u hk ⟨ob,e,r⟩;exact⟨ob,by rw[hL k hk];exact e,by rw[hσ k hk];exact r⟩
 cases c with
 |row k v=>
  simp only[bY,decide_eq_true_eq] at hf;obtain⟨ob,e,r⟩:=h2;exact⟨ob,by rw[hL k hf];exact e,by rw[hσ k hf];exact r⟩
 |ptr k v i off=>simp only[bY,decide_eq_true_eq] at hf;exact hRP _ _ _ _ _ hf h2
 |mpv k=>
  simp only[bY,decide_eq_true_eq] at hf;obtain⟨ob,e,r⟩:=h2;exact⟨ob,by rw[hL k hf];exact e,by rw[hσ k hf];exact r⟩
 |rwc k v=>
  simp only[bY,decide_eq_true_eq] at hf;obtain⟨ob,e,r⟩:=h2;exact⟨ob,by rw[hL k hf];exact e,by rw[hσ k hf];exact r⟩
 |suf k v p cp=>
  simp only[bY,decide_eq_true_eq] at hf;obtain⟨ob,e,r⟩:=h2;exact⟨ob,by rw[hL k hf];exact e,by rw[hσ k hf];exact r⟩
 |fn f caps=>
  obtain⟨vs,e,hall⟩:=h2;refine⟨vs,e,hall.weaken λc u hc hcu=>?_⟩;have:=List.all_eq_true.1 hf c hc
  cases c with
  |ref k=>simp only[decide_eq_true_eq] at this;exact⟨hcu.1,hRP _ _ _ _ _ this hcu.2⟩
  |pat t d=>exact⟨hcu.1,zn ha hcu.2⟩
  |pfn f ds=>exact⟨hcu.1,p7 ha hcu.2⟩
 |list t xs=>exact Dat.keep (t:=.list t) (Υ _) (λ_ _ _=>rfl) ha h2
 |pat t d off=>exact zn ha h2
 |pfn f ds=>exact p7 ha h2
 |_=>exact h2
theorem w7 (ha:∀ b,b<w.heap.size→avd C' L' σ' b→avd C L σ b)(hL:∀ k,k<n→L'[k]? =L[k]?)(hσ:∀ k,k<n→σ' k=σ k){v:AV}{u:Value}(hf:mu n v=true)(h:RV1 C L σ w v u):RV1 C' L' σ' w v u:=by
 cases v with
 |undef=>trivial
 |void=>exact h
 |one c=>exact qo ha hL hσ hf h
 |agg cs=>obtain⟨vs,e,hall⟩:=h;exact⟨vs,e,hall.weaken λc u hc hcu=>qo ha hL hσ (List.all_eq_true.1 hf c hc) hcu⟩
 |tup _=>exact h.elim
theorem AR (ha:∀ b,b<w.heap.size→avd C' L' σ' b→avd C L σ b)(hL:∀ k,k<n→L'[k]? =L[k]?)(hσ:∀ k,k<n→σ' k=σ k){v:AV}{u:Value}(hf:fQ n v=true)(h:RV C L σ w v u):RV C' L' σ' w v u:=by
 cases v with
 |tup vs=>obtain⟨us,e,hall⟩:=h;exact⟨us,e,hall.weaken λc u hc hcu=>w7 ha hL hσ (List.all_eq_true.1 hf c hc) hcu⟩
 |undef=>trivial
 |void=>exact h
 |one c=>exact w7 (v:=.one c) ha hL hσ hf h
 |agg cs=>exact w7 (v:=.agg cs) ha hL hσ hf h
theorem sN {v:AV}{u:Value}(h:RV1 C L σ w v u):mu L.length v=true:=by
 cases v with
 |undef=>rfl
 |void=>rfl
 |one c=>exact lH h
 |agg cs=>
  obtain⟨vs,e,hall⟩:=h;refine List.all_eq_true.2 λc hc=>?_;obtain⟨i,hi⟩:=List.getElem?_of_mem hc;obtain⟨u,_,hu⟩:=hall.at_ hi;exact lH hu
 |tup _=>exact h.elim
theorem Q9 {v:AV}{u:Value}(h:RV C L σ w v u):fQ L.length v=true:=by
 cases v with
 |tup vs=>
  obtain⟨us,e,hall⟩:=h;refine List.all_eq_true.2 λc hc=>?_;obtain⟨i,hi⟩:=List.getElem?_of_mem hc;obtain⟨u,_,hu⟩:=hall.at_ hi;exact sN hu
 |undef=>rfl
 |void=>rfl
 |one c=>exact sN (v:=.one c) h
 |agg cs=>exact sN (v:=.agg cs) h
theorem ul {E:List AO}:∀ (u:List (Nat×AO)) (A:List AO),(∀ p,p∈u→p.1<A.length)→cD (A++E) u=cD A u++E
 |[],A,_=>rfl
 |(k,ob)::u,A,h=>by
  simp only[cD];rw[List.set_append_left _ _ (h (k,ob) (List.mem_cons_self ..))];exact ul u _ λp hp=>by rw[List.length_set];exact h p (List.mem_cons_of_mem _ hp)
end
theorem CF {P:Program}{f:FuncId}{args:List AV}{A E:List AO}{out:Out}(h:cS P A f args out)(hA:A.all (cr A.length)=true)(hargs:args.all (fQ A.length)=true)(hnew:out.new=[])
 (hu:∀ p,p∈out.upd→p.1<A.length) (hfp:∀ k,k<A.length→k∈out.fp):cS P (A++E) f args out:=by
 refine⟨h.1,λC L σ w vs hP hI ha hfp2 hlen=>?_⟩;have hLA:∀ k,k<A.length→L[k]? =A[k]?:=λk hk=>by rw[hfp2 k (hfp k hk),List.getElem?_append_left hk]
 have hlen':L.length=A.length+E.length:=by rw[hlen,List.length_append]
 have hL:L=A++L.drop A.length:=List.ext_getElem? λk=>by
  rcases Nat.lt_or_ge k A.length with hk|hk
  ·rw[List.getElem?_append_left hk,hLA k hk]
  ·rw[List.getElem?_append_right hk,List.getElem?_drop];congr 1;omega
 generalize hE':L.drop A.length=E' at hL
 subst hL;clear hE';have hLE:∀ (B:List AO) k,B.length=A.length→A.length≤k→(B++E')[k]? =(A++E')[k]?:=λB k hB hk=>by
  rw[List.getElem?_append_right ω,List.getElem?_append_right hk,hB]
 let C2:Ctx:={P:=P,X:=λb=>C.X b∨∃ o,A.length≤o∧own (A++E') σ o b,keep:=λb=>b<w.heap.size∧¬ ∃ o,o<A.length∧own (A++E') σ o b,w0:=w,N:=C.N,bL:=[],bσ:=σ,bw:=w}
 have hownA:∀ o b,own A σ o b↔o<A.length∧own (A++E') σ o b:=by
  intro o b
  constructor
  ·rintro⟨ob,q1,q2,q3⟩
   have ho:=(Δ.1 q1).1;exact⟨ho,ob,by rw[hLA o ho];exact q1,q2,q3⟩
  ·rintro⟨ho,ob,q1,q2,q3⟩
   exact⟨ob,by rw[← hLA o ho];exact q1,q2,q3⟩
 have hav:∀ b,avd C2 A σ b↔avd C (A++E') σ b:=by
  intro b
  constructor
  ·rintro((hx|⟨o,_,hb⟩)|⟨o,hb⟩)
   ·exact .inl hx
   ·exact .inr ⟨o,hb⟩
   ·exact .inr ⟨o,((hownA o b).1 hb).2⟩
  ·rintro(hx|⟨o,hb⟩)
   ·exact .inl (.inl hx)
   ·rcases Nat.lt_or_ge o A.length with ho|ho
    ·exact .inr ⟨o,(hownA o b).2 ⟨ho,hb⟩⟩
    ·exact .inl (.inr ⟨o,ho,hb⟩)
 have hcut:∀ {c:AC} {u:Value},bY A.length c=true→RC C (A++E') σ w c u→RC C2 A σ w c u:=λhf h=>qo (n:=A.length) (λb _ hb=>(hav b).1 hb) (λk hk=>(hLA k hk).symm) (λ_ _=>rfl) hf h;have hI2:INV C2 A σ w:=by
  refine⟨λo ob e=>?_,λo o' b q1 q2=>hI.inj o o' b ((hownA o b).1 q1).2 ((hownA o' b).1 q2).2,λo b q=>?_,λb hb=>⟨hb.1,rfl⟩,λb hb=>?_,Υ _,rfl,rfl,rfl⟩
  ·have ho:=(Δ.1 e).1
   have h1:=hI.ob o ob (by rw[hLA o ho];exact e);have hfo:=List.all_eq_true.1 hA ob (List.mem_of_getElem? e)
   cases ob with
   |dead _=>trivial
   |vars T cs=>obtain⟨b,vs,e1,e2,e3⟩:=h1;exact⟨b,vs,e1,e2,e3.weaken λc u hc hcu=>hcut (List.all_eq_true.1 hfo c hc) hcu⟩
   |row t e v xs=>obtain⟨flat,h2,h0,h3⟩:=h1;exact⟨flat,h2,h0,λi hi=>(h3 i hi).keep (Υ _) (λ_ _ _=>rfl) λb _ hb=>(hav b).1 hb⟩
   |mp T vk es=>obtain⟨b,ents,clock,e1,e2,e3,e4,e5⟩:=h1;exact⟨b,ents,clock,e1,e2,e3,e4,by rw[hP] at e5;exact e5⟩
   |itr s pos=>exact h1
   |fact g x=>exact⟨h1.1,λhx=>h1.2 ((hav g).1 hx)⟩
   |rowc e sz v cs=>obtain⟨flat,m,h2,h0,hl0,h3⟩:=h1;exact⟨flat,m,h2,h0,hl0,h3.weaken λc u hc hcu=>hcut (List.all_eq_true.1 hfo c hc) hcu⟩
  ·obtain⟨ho,q⟩:=(hownA o b).1 q
   refine⟨λhk=>hk.2 ⟨o,ho,q⟩,?_⟩;rintro(hx|⟨o',ho',q'⟩)
   ·exact(hI.off o b q).2 hx
   ·have:=hI.inj o o' b q q';omega
  ·rcases hb with hx|⟨o,_,q⟩
   ·exact Nat.lt_of_lt_of_le (hI.xlt b hx) hI.size
   ·exact jJ hI q
 have hargs2:bv (RV C2 A σ w) args vs:=ha.weaken λv u hv hu=>AR (n:=A.length) (λb _ hb=>(hav b).1 hb) (λk hk=>(hLA k hk).symm) (λ_ _=>rfl) (List.all_eq_true.1 hargs v hv) hu;refine(h.2 C2 A σ w vs rfl hI2 hargs2 (λ_ _=>rfl) rfl).mono λe w' ⟨v,he,σ',g1,g2,g3⟩=>⟨v,he,?_⟩
 have eA:app A out=cD A out.upd:=by unfold app;rw[hnew,List.append_nil]
 rw[eA] at g1 g2 g3;have eL:app (A++E') out=cD A out.upd++E':=by unfold app;rw[hnew,List.append_nil];exact ul _ _ hu
 have hlA:(cD A out.upd).length=A.length:=gI _ _
 generalize cD A out.upd=A' at g1 g2 g3 eL hlA
 let σ3:Sig:=λk=>if k<A.length then σ' k else σ k
 have hσl:∀ k,k<A.length→σ3 k=σ' k:=λk hk=>if_pos hk;have hσg:∀ k,A.length≤k→σ3 k=σ k:=λk hk=>if_neg ω;have hlo:∀ o b,o<A.length→(own (A'++E') σ3 o b↔own A' σ' o b):=by
  intro o b ho;unfold own;rw[List.getElem?_append_left ω,hσl o ho]
 have hhi:∀ o b,A.length≤o→(own (A'++E') σ3 o b↔own (A++E') σ o b):=by
  intro o b ho;unfold own;rw[hLE A' o hlA ho,hσg o ho]
 have hav3:∀ b,avd C (A'++E') σ3 b↔avd C2 A' σ' b:=by
  intro b
  constructor
  ·rintro(hx|⟨o,hb⟩)
   ·exact .inl (.inl hx)
   ·rcases Nat.lt_or_ge o A.length with ho|ho
    ·exact .inr ⟨o,(hlo o b ho).1 hb⟩
    ·exact .inl (.inr ⟨o,ho,(hhi o b ho).1 hb⟩)
  ·rintro((hx|⟨o,ho,hb⟩)|⟨o,hb⟩)
   ·exact .inl hx
   ·exact .inr ⟨o,(hhi o b ho).2 hb⟩
   ·obtain⟨ob,q1,q2⟩:=hb
    have ho:=(Δ.1 q1).1;exact .inr ⟨o,(hlo o b ω).2 ⟨ob,q1,q2⟩⟩
 have hcut3:∀ {c:AC} {u:Value},RC C2 A' σ' w' c u→RC C (A'++E') σ3 w' c u:=λh=>qo (n:=A.length) (λb _ hb=>(hav3 b).1 hb) (λk hk=>by rw[List.getElem?_append_left ω]) hσl (by rw[← hlA];exact lH h) h;have hlow:∀ {c:AC} {u:Value},bY A.length c=true→RC C (A++E') σ w c u→RC C (A'++E') σ3 w' c u:=λhf h=>hcut3 (g3 _ _ (hcut hf h));have hRP:∀ k ver i off u,u.oneCell'=true→RP (A++E') σ k ver i off u→RP (A'++E') σ3 k ver i off u:=by
  intro k ver i off u hu h;rcases Nat.lt_or_ge k A.length with hk|hk
  ·exact(hlow (c:=.ptr k ver i off) (by simp only[bY];exact decide_eq_true hk) ⟨hu,h⟩).2
  ·obtain⟨ob,e,r⟩:=h
   exact⟨ob,by rw[hLE A' k hlA hk];exact e,by rw[hσg k hk];exact r⟩
 have hpres:eB C (A++E') σ w (A'++E') σ3 w':=by
  rintro c u ⟨hc1,hc⟩
  cases c with
  |row k v=>
   rcases Nat.lt_or_ge k A.length with hk|hk
   ·exact hlow (by simp only[bY];exact decide_eq_true hk) ⟨hc1,hc⟩
   ·obtain⟨ob,e,r⟩:=hc
    exact⟨hc1,ob,by rw[hLE A' k hlA hk];exact e,by rw[hσg k hk];exact r⟩
  |ptr k v i off=>exact⟨hc1,hRP _ _ _ _ _ hc1 hc⟩
  |mpv k=>
   rcases Nat.lt_or_ge k A.length with hk|hk
   ·exact hlow (by simp only[bY];exact decide_eq_true hk) ⟨hc1,hc⟩
   ·obtain⟨ob,e,r⟩:=hc
    exact⟨hc1,ob,by rw[hLE A' k hlA hk];exact e,by rw[hσg k hk];exact r⟩
  |rwc k v=>
   rcases Nat.lt_or_ge k A.length with hk|hk
   ·exact hlow (by simp only[bY];exact decide_eq_true hk) ⟨hc1,hc⟩
   ·obtain⟨ob,e,r⟩:=hc
    exact⟨hc1,ob,by rw[hLE A' k hlA hk];exact e,by rw[hσg k hk];exact r⟩
  |suf k v p cp=>
   rcases Nat.lt_or_ge k A.length with hk|hk
   ·exact hlow (by simp only[bY];exact decide_eq_true hk) ⟨hc1,hc⟩
   ·obtain⟨ob,e,r⟩:=hc
    exact⟨hc1,ob,by rw[hLE A' k hlA hk];exact e,by rw[hσg k hk];exact r⟩
  |fn f caps=>
   obtain⟨us,e,hall⟩:=hc;refine⟨hc1,us,e,hall.mono λk u hk=>?_⟩
   cases k with
   |ref k=>exact⟨hk.1,hRP k 0 0 0 u hk.1 hk.2⟩
   |pat t d=>exact hlow (c:=.pat t d 0) rfl hk
   |pfn f ds=>exact hlow (c:=.pfn f ds) rfl hk
  |_=>exact hlow rfl ⟨hc1,hc⟩
 have hblk:∀ b,b<w.heap.size→(¬ ∃ o,o<A.length∧own (A++E') σ o b)→w'.heap[b]? =w.heap[b]?:=λb hb hno=>(g1.kept b ⟨hb,hno⟩).2;refine⟨σ3,?_,?_,?_⟩
 ·rw[eL]
  refine⟨λo ob e=>?_,λo o' b q1 q2=>?_,λo b q=>?_,λb hb=>?_,hI.xlt,Nat.le_trans hI.size g1.size,g1.os.trans hI.os,g1.tape.trans hI.tape,g1.output.trans hI.output⟩
  ·rcases Nat.lt_or_ge o A.length with ho|ho
   ·rw[List.getElem?_append_left ω] at e
    have h1:=g1.ob o ob e
    cases ob with
    |dead _=>trivial
    |vars T cs=>obtain⟨b,vs,e1,e2,e3⟩:=h1;exact⟨b,vs,by rw[hσl o ho];exact e1,e2,e3.mono λc u hcu=>hcut3 hcu⟩
    |row t e v xs=>obtain⟨flat,h2,h0,h3⟩:=h1;exact⟨flat,by rw[hσl o ho];exact h2,h0,λi hi=>(h3 i hi).keep (Υ _) (λ_ _ _=>rfl) λb _ hb=>(hav3 b).1 hb⟩
    |mp T vk es=>obtain⟨b,ents,clock,e1,e2,e3,e4,e5⟩:=h1;exact⟨b,ents,clock,by rw[hσl o ho];exact e1,e2,e3,e4,by rw[hP];exact e5⟩
    |itr s pos=>obtain⟨b,e1,e2⟩:=h1;exact⟨b,by rw[hσl o ho];exact e1,e2⟩
    |fact g x=>exact⟨h1.1,λhx=>h1.2 ((hav3 g).1 hx)⟩
    |rowc e sz v cs=>obtain⟨flat,m,h2,h0,hl0,h3⟩:=h1;exact⟨flat,m,by rw[hσl o ho];exact h2,h0,hl0,h3.mono λc u hcu=>hcut3 hcu⟩
   ·rw[hLE A' o hlA ho] at e
    have h1:=hI.ob o ob e;have hfree:∀ b,own (A++E') σ o b→w'.heap[b]? =w.heap[b]?:=λb hb1=>hblk b (jJ hI hb1) fun⟨o',ho',hb2⟩=>by have:=hI.inj o o' b hb1 hb2;omega
    cases ob with
    |dead _=>trivial
    |vars T cs=>
     obtain⟨b,vs,e1,e2,e3⟩:=h1;refine⟨b,vs,by rw[hσg o ho];exact e1,?_,e3.mono λc u hc=>hpres c u hc⟩;rw[hfree b ⟨_,e,rfl,by rw[e1];rfl⟩];exact e2
    |row t e9 v xs=>
     obtain⟨flat,h2,h0,h3⟩:=h1;refine⟨flat,?_,h0,λi hi=>(h3 i hi).keep g1.size (λb hb hna=>hblk b hb fun⟨o',_,hb2⟩=>hna (.inr ⟨o',hb2⟩)) (λb hb hx=>?_)⟩
     ·rw[hσg o ho]
      refine⟨h2.1,?_⟩;rcases h2.2 with h4|⟨g,cap,cur,e1,hg,hh,r⟩
      ·exact .inl h4
      ·refine .inr ⟨g,cap,cur,e1,hg,?_,r⟩
       rw[hfree g ⟨_,e,rfl,by rw[e1];rfl⟩];exact hh
     ·rcases(hav3 b).1 hx with(hx|⟨o',_,hx⟩)|⟨o',hx⟩
      ·exact .inl hx
      ·exact .inr ⟨o',hx⟩
      ·have hoff:=(g1.off o' b hx).1
       rcases Classical.em (∃ o,o<A.length∧own (A++E') σ o b) with⟨o2,_,h9⟩|h9
       ·exact .inr ⟨o2,h9⟩
       ·exact absurd ⟨hb,h9⟩ hoff
    |mp T vk es=>
     obtain⟨b,ents,clock,e1,e2,e3⟩:=h1;refine⟨b,ents,clock,by rw[hσg o ho];exact e1,?_,e3⟩;rw[hfree b ⟨_,e,rfl,by rw[e1];rfl⟩];exact e2
    |rowc e9 sz v cs=>
     obtain⟨flat,m,h2,h0,hl0,h3⟩:=h1;refine⟨flat,m,?_,h0,hl0,h3.mono λc u hc=>hpres c u hc⟩;rw[hσg o ho];refine⟨h2.1,?_⟩;rcases h2.2 with h4|⟨g,cap,cur,e1,hg,hh,r⟩
     ·exact .inl h4
     ·refine .inr ⟨g,cap,cur,e1,hg,?_,r⟩
      rw[hfree g ⟨_,e,rfl,by rw[e1];rfl⟩];exact hh
    |itr s pos=>
     obtain⟨b,e1,e2⟩:=h1;refine⟨b,by rw[hσg o ho];exact e1,?_⟩;rw[hfree b ⟨_,e,rfl,by rw[e1];rfl⟩];exact e2
    |fact g x=>
     obtain⟨e1,e2⟩:=h1;have hlt:=(Array.getElem?_eq_some_iff.1 e1).1;refine⟨(hblk g hlt fun⟨o',_,hb2⟩=>e2 (.inr ⟨o',hb2⟩)).trans e1,λhx=>?_⟩;rcases(hav3 g).1 hx with(q|⟨o',_,q⟩)|⟨o',q⟩
     ·exact e2 (.inl q)
     ·exact e2 (.inr ⟨o',q⟩)
     ·exact(g1.off o' g q).1 ⟨hlt,fun⟨o2,_,q2⟩=>e2 (.inr ⟨o2,q2⟩)⟩
  ·rcases Nat.lt_or_ge o A.length with ho|ho<;>rcases Nat.lt_or_ge o' A.length with ho'|ho'
   ·exact g1.inj o o' b ((hlo o b ho).1 q1) ((hlo o' b ho').1 q2)
   ·exact absurd (.inr ⟨o',ho',(hhi o' b ho').1 q2⟩) (g1.off o b ((hlo o b ho).1 q1)).2
   ·exact absurd (.inr ⟨o,ho,(hhi o b ho).1 q1⟩) (g1.off o' b ((hlo o' b ho').1 q2)).2
   ·exact hI.inj o o' b ((hhi o b ho).1 q1) ((hhi o' b ho').1 q2)
  ·rcases Nat.lt_or_ge o A.length with ho|ho
   ·obtain⟨k1,k2⟩:=g1.off o b ((hlo o b ho).1 q)
    refine⟨λhk=>k1 ⟨Nat.lt_of_lt_of_le (hI.kept b hk).1 hI.size,fun⟨o',_,h9⟩=>(hI.off o' b h9).1 hk⟩,λhx=>k2 (.inl hx)⟩
   ·exact hI.off o b ((hhi o b ho).1 q)
  ·have hk:=hI.kept b hb
   refine⟨hk.1,?_⟩;rw[hblk b (Nat.lt_of_lt_of_le hk.1 hI.size) fun⟨o',_,h9⟩=>(hI.off o' b h9).1 hb];exact hk.2
 ·rw[eL]
  exact AR (n:=A.length) (λb _ hb=>(hav3 b).1 hb) (λk hk=>by rw[List.getElem?_append_left ω]) hσl (by rw[← hlA];exact Q9 g2) g2
 ·rw[eL];exact hpres
theorem CV {C:Ctx}{L:List AO}{σ:Sig}{w:World}{k:Nat}{e:TypeId}{sz v n:Nat}{cs cs':List AC}{flat:List Value}(h:INV C L σ w)(hk:L[k]? =some (.rowc e sz v cs))(hf:w.ownsRow 0 e sz (σ k) n flat)(h0:0<sz)
 (hl:cs'.length=n*sz) (hall:bv (RC C L σ w) cs' flat):INV C (L.set k (.rowc e sz v cs')) σ w∧eB C L σ w (L.set k (.rowc e sz v cs')) σ w:=by
 have hlt:k<L.length:=(Δ.1 hk).1;exact d8 (C:=C) (L':=L.set k (.rowc e sz v cs')) (σ':=σ) (w':=w) k h (Υ _) rfl rfl rfl (λ_ _ _=>rfl) (λj hj=>by rw[List.getElem?_set_ne (Ne.symm hj)]) (λ_ _=>rfl)
  (λob e'=>by rw[hk] at e';cases e';exact⟨.rowc e sz v cs',by simp[hlt],Υ _,λ_ _=>⟨rfl,rfl,rfl,_,rfl⟩⟩)
  (λb ⟨ob,e1,e2,e3⟩=>by simp[hlt] at e1;subst e1;exact .inl ⟨_,hk,rfl,e3⟩)
  (λhp _ ob e'=>by simp[hlt] at e';subst e';exact⟨flat,n,hf,h0,hl,hall.mono λc u hc=>hp c u hc⟩)
theorem wQ {C:Ctx}{L:List AO}{σ:Sig}{w:World}{k b:Nat}{T:TypeId}{cs cs':List AC}{vs:List Value}(h:INV C L σ w)(hk:L[k]? =some (.vars T cs))(e1:σ k= .pointer (some ⟨b,0,none⟩))(e2:w.heap[b]? =some (.cells (List.toArray vs) T (0,0)))
 (hall:bv (RC C L σ w) cs' vs):INV C (L.set k (.vars T cs')) σ w∧eB C L σ w (L.set k (.vars T cs')) σ w:=by
 have hlt:k<L.length:=(Δ.1 hk).1;exact d8 (C:=C) (L':=L.set k (.vars T cs')) (σ':=σ) (w':=w) k h (Υ _) rfl rfl rfl (λ_ _ _=>rfl) (λj hj=>by rw[List.getElem?_set_ne (Ne.symm hj)]) (λ_ _=>rfl)
  (λob e'=>by rw[hk] at e';cases e';exact⟨.vars T cs',by simp[hlt],Υ _,λ_ _=>⟨rfl,rfl,rfl,trivial⟩⟩)
  (λb ⟨ob,e1,e2,e3⟩=>by simp[hlt] at e1;subst e1;exact .inl ⟨_,hk,rfl,e3⟩)
  (λhp _ ob e'=>by simp[hlt] at e';subst e';exact⟨b,vs,e1,e2,hall.mono λc u hc=>hp c u hc⟩)
theorem nq {C:Ctx}{Q:Exit→St→Prop}{s:St}{c:Code}(k j sz:Nat)(e:TypeId){T:TypeId}{cs:List AC}(ht:0<sz)(hk:s.L[k]? =some (.vars T cs))(hj:cs[j]? =some .nils)
 (h:AWP C c Q {env:=s.env,L:=s.L.set k (.vars T (cs.set j (.rwc s.L.length 0)))++[.rowc e sz 0 []]}):AWP C c Q s:=by
 intro σ a w hr;have hlt:k<s.L.length:=(Δ.1 hk).1;have hg:∀ ob',s.L[s.L.length]? =some ob'→False:=λob' e=>by rw[List.getElem?_eq_none (Υ _)] at e;cases e
 have hlast:(s.L++[AO.rowc e sz 0 []])[s.L.length]? =some (.rowc e sz 0 []):=η;have t1:=d8 (C:=C) (L':=s.L++[.rowc e sz 0 []]) (σ':=sup σ s.L.length (.slice none 0 0)) (w':=w) s.L.length hr.inv (Υ _) rfl rfl rfl (λ_ _ _=>rfl)
  (λk hk=>by
    rcases Nat.lt_or_ge k s.L.length with hl|hl
    ·rw[List.getElem?_append_left hl]
    ·rw[List.getElem?_eq_none (by simp;omega),List.getElem?_eq_none hl])
  (λk hk=>d6 σ _ hk) (λob' e=>(hg ob' e).elim)
  (λb ⟨ob',e1,e2,e3⟩=>by rw[aR] at e3;cases e3)
  (λhp _ ob' e'=>by rw[hlast] at e';cases e';exact⟨[],0,⟨η,.inl ⟨by rw[aR],rfl⟩⟩,ht,η,trivial⟩)
 generalize hL1:s.L++[AO.rowc e sz 0 []]=L1 at*
 generalize hs1:sup σ s.L.length (.slice none 0 0)=σ1 at*
 have hk':L1[k]? =some (.vars T cs):=by rw[← hL1,List.getElem?_append_left hlt];exact hk
 have hlt':k<L1.length:=(Δ.1 hk').1;have hσ:σ1 s.L.length= .slice none 0 0:=by rw[← hs1,aR]
 have t2:=d8 (C:=C) (L':=L1.set k (.vars T (cs.set j (.rwc s.L.length 0)))) (σ':=σ1) (w':=w) k t1.1 (Υ _) rfl rfl rfl (λ_ _ _=>rfl)
  (λi hi=>by rw[List.getElem?_set_ne (Ne.symm hi)]) (λ_ _=>rfl)
  (λob e'=>by rw[hk'] at e';cases e';exact⟨.vars T (cs.set j (.rwc s.L.length 0)),by simp[hlt'],Υ _,λ_ _=>⟨rfl,rfl,rfl,trivial⟩⟩)
  (λb ⟨ob,e1,e2,e3⟩=>.inl ⟨_,hk',rfl,e3⟩)
  (λhp _ ob e'=>by
    simp[hlt'] at e';subst e';obtain⟨b,vs,e1,e2,e3⟩:=t1.1.ob k _ hk';refine⟨b,vs,e1,e2,?_⟩;obtain⟨u,hu,hcu⟩:=e3.at_ hj;have hvs:vs.set j u=vs:=by
     apply List.ext_getElem?;intro i;rw[List.getElem?_set];split
     ·rename_i e;subst e;split
      ·exact hu.symm
      ·rename_i hh;exact absurd (Δ.1 hu).1 hh
     ·rfl
    rw[← hvs];have hnew:RC C L1 σ1 w (.rwc s.L.length 0) u:=⟨hcu.1,_,hlast,Υ _,λ_ _=>⟨⟨_,_,_,rfl⟩,by rw[hσ];exact hcu.2⟩⟩
    exact(e3.mono λc v hcv=>hp c v hcv).set j (hp _ _ hnew))
 refine h σ1 a w ⟨?_,λt'=>?_,hr.size,hr.defers,?_⟩
 all_goals(have hset:s.L.set k (.vars T (cs.set j (.rwc s.L.length 0)))++[AO.rowc e sz 0 []]=L1.set k (.vars T (cs.set j (.rwc s.L.length 0))):=by rw[← hL1,List.set_append,if_pos hlt])
 ·show INV C (s.L.set k (.vars T (cs.set j (.rwc s.L.length 0)))++[AO.rowc e sz 0 []]) σ1 w
  rw[hset];exact t2.1
 ·show RV C (s.L.set k (.vars T (cs.set j (.rwc s.L.length 0)))++[AO.rowc e sz 0 []]) σ1 w _ _
  rw[hset];exact t2.2.rv (t1.2.rv (hr.env t'))
 ·show eB C C.bL C.bσ C.bw (s.L.set k (.vars T (cs.set j (.rwc s.L.length 0)))++[AO.rowc e sz 0 []]) σ1 w
  rw[hset];exact(hr.pres.trans t1.2).trans t2.2
theorem pQ:∀ (t:Ty) (d:t.den),bq t (acs t d)=some d
 | .int k,n=>by simp[acs,bq]
 | .bool,b=>rfl
 | .str,s=>rfl
 | .list t,xs=>by simp[acs,bq]
 | .unit,_=>rfl
 | .pair a b,(x,y)=>by
   have h1:=pQ a x;have h2:=pQ b y;have h3:=l9 a x;simp only[acs,bq];rw[List.take_append_of_le_length ω,List.take_of_length_le ω,List.drop_append_of_le_length ω,List.drop_eq_nil_of_le ω,List.nil_append,h1,h2]
theorem xj (t:Ty):∀ xs:List t.den,eF t xs.length (xs.flatMap (acs t))=some xs
 |[]=>by simp[eF]
 |x::xs=>by
  have h3:=l9 t x;simp only[List.flatMap_cons,List.length_cons,eF];rw[List.take_append_of_le_length ω,List.take_of_length_le ω,List.drop_append_of_le_length ω,List.drop_eq_nil_of_le ω,List.nil_append,pQ,xj t xs]
theorem pD {C:Ctx}{L:List AO}{σ:Sig}{w:World}{k:Nat}{t:Ty}{e:TypeId}{v n:Nat}{cs:List AC}{xs:List t.den}(h:INV C L σ w)(hk:L[k]? =some (.rowc e t.size v cs))(hc:eF t n cs=some xs)(hl:cs.length=n*t.size):
 INV C (L.set k (.row t e (v+1) xs)) σ w∧eB C L σ w (L.set k (.row t e (v+1) xs)) σ w:=by
 have hlt:k<L.length:=(Δ.1 hk).1;have hxl:=fC hc;obtain⟨flat,m,h1,h0,hl2,h3⟩:=h.ob k _ hk;have em:m=n:=Nat.eq_of_mul_eq_mul_right h0 (hl2.symm.trans hl);subst em;exact d8 (C:=C) (L':=L.set k (.row t e (v+1) xs)) (σ':=σ) (w':=w) k h (Υ _) rfl rfl rfl (λ_ _ _=>rfl) (λj hj=>by rw[List.getElem?_set_ne (Ne.symm hj)]) (λ_ _=>rfl)
  (λob e'=>by rw[hk] at e';cases e';exact⟨.row t e (v+1) xs,by simp[hlt],Nat.le_succ _,λ_ h=>by simp[AO.ver] at h⟩)
  (λb ⟨ob,e1,e2,e3⟩=>by simp[hlt] at e1;subst e1;exact .inl ⟨_,hk,rfl,e3⟩)
  (λhp _ ob e'=>by simp[hlt] at e';subst e';exact⟨flat,by rw[hxl];exact h1,h0,λi hi=>kh hc (h3.mono λc u hcu=>hp c u hcu) i ω⟩)
theorem pz {C:Ctx}{Q:Exit→St→Prop}{s:St}{c:Code}(t' k:Nat)(t:Ty)(n:Nat){e:TypeId}{v:Nat}{cs:List AC}{xs:List t.den}(ht:lkp s.env t'= .one (.rwc k v))(hk:s.L[k]? =some (.rowc e t.size v cs))(hc:eF t n cs=some xs)(hl:cs.length=n*t.size)
 (h:AWP C c Q {env:=(t',.one (.row k (v+1)))::s.env,L:=s.L.set k (.row t e (v+1) xs)}):AWP C c Q s:=by
 intro σ a w hr;have hlt:k<s.L.length:=(Δ.1 hk).1;obtain⟨i1,i2⟩:=pD hr.inv hk hc hl;refine h σ a w ⟨i1,λt''=>?_,hr.size,hr.defers,hr.pres.trans i2⟩;simp only[lkp]
 by_cases e':t''=t'
 ·rw[if_pos e',e']
  have h1:=hr.env t';rw[ht] at h1;obtain⟨q1,ob,q2,q3,q4⟩:=h1;rw[hk] at q2;cases q2;exact⟨q1,.row t e (v+1) xs,by simp[hlt],Υ _,λ_ _=>⟨⟨_,_,_,rfl⟩,(q4 rfl rfl).2⟩⟩
 ·rw[if_neg e'];exact i2.rv (hr.env t'')
theorem iM {C:Ctx}{Q:Exit→St→Prop}{s:St}{c:Code}(k m j:Nat)(t:Ty)(n:Nat){e T:TypeId}{v:Nat}{cs cv:List AC}{xs:List t.den}(hm:s.L[m]? =some (.vars T cv))(hj:cv[j]? =some (.rwc k v))(hk:s.L[k]? =some (.rowc e t.size v cs))(hc:eF t n cs=some xs)(hl:cs.length=n*t.size)
 (h:AWP C c Q {env:=s.env,L:=(s.L.set k (.row t e (v+1) xs)).set m (.vars T (cv.set j (.row k (v+1))))}):AWP C c Q s:=by
 intro σ a w hr;have hlt:k<s.L.length:=(Δ.1 hk).1;have hkm:m≠k:=by rintro rfl;rw[hk] at hm;cases hm
 obtain⟨i1,i2⟩:=pD hr.inv hk hc hl;obtain⟨b,vs,e1,e2,e3⟩:=hr.inv.ob m _ hm;have hm1:(s.L.set k (.row t e (v+1) xs))[m]? =some (.vars T cv):=by rw[List.getElem?_set_ne (Ne.symm hkm)];exact hm
 obtain⟨u,hu,hcu⟩:=e3.at_ hj;have hvs:vs.set j u=vs:=by
  apply List.ext_getElem?;intro i;rw[List.getElem?_set];split
  ·rename_i e;subst e;split
   ·exact hu.symm
   ·rename_i hh;exact absurd (Δ.1 hu).1 hh
  ·rfl
 have hnew:RC C (s.L.set k (.row t e (v+1) xs)) σ w (.row k (v+1)) u:=by
  obtain⟨q1,ob,q2,q3,q4⟩:=hcu;rw[hk] at q2;cases q2;exact⟨q1,.row t e (v+1) xs,by simp[hlt],Υ _,λ_ _=>⟨⟨_,_,_,rfl⟩,(q4 rfl rfl).2⟩⟩
 obtain⟨j1,j2⟩:=wQ i1 hm1 e1 e2 (cs':=cv.set j (.row k (v+1))) (by rw[← hvs];exact(e3.mono λc v hcv=>i2 c v hcv).set j hnew);exact h σ a w ⟨j1,λt''=>j2.rv (i2.rv (hr.env t'')),hr.size,hr.defers,(hr.pres.trans i2).trans j2⟩
theorem jc {α:Type}{l:List α}{m:Nat}{x:α}(h:l[m]? =some x):l.set m x=l:=by
 apply List.ext_getElem?;intro i;rw[List.getElem?_set];split
 ·rename_i e;subst e
  split
  ·exact h.symm
  ·rename_i hh;exact absurd (Δ.1 h).1 hh
 ·rfl
theorem sL {k ver:Nat}{t:Ty}{xs:List t.den}:∀ {cs:List AC},(∀ c,c∈cs→∀ k' v,c= .row k' v→k'≠k)→cs.map (frC k ver t xs)=cs
 |[],_=>rfl
 |c::cs,h=>by
  rw[List.map_cons,sL λc' hc'=>h c' (List.mem_cons_of_mem _ hc')]
  congr 1
  cases c with
  |row k' v=>simp only[frC];rw[if_neg λhh=>h _ (List.mem_cons_self ..) k' v rfl hh.1]
  |_=>rfl
end Go.AV
