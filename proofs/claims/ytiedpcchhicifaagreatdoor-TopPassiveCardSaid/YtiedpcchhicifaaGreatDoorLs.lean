/- Part of the proof. -/
import Derived.Test.YtiedpcchhicifaaGreatDoorLr
set_option linter.unusedSimpArgs false
set_option linter.unusedVariables false
open List renaming getElem?_eq_some_iff→Δ
open Nat renaming le_refl→Υ
namespace Go.AV
open Go Go.RowKit
def shV (k:Nat)(t:Ty)(d:t.den):AV→AV
 | .one (.ptr k' 0 0 off)=>if k'=k then .one (.pat t d off) else .one (.ptr k' 0 0 off)
 |v=>v
theorem sI (f:AV→AV)(hf:f .undef= .undef)(t:Nat):∀ env:Env,lkp (env.map λx=>(x.1,f x.2)) t=f (lkp env t)
 |[]=>hf.symm
 |(n,v)::env=>by
  simp only[List.map_cons,lkp]
  by_cases e:t=n
  ·simp only[e,if_true]
  ·simp only[e,if_false];exact sI f hf t env
theorem gJ {C:Ctx}{Q:Exit→St→Prop}{s:St}{c:Code}(k:Nat)(t:Ty){T:TypeId}{cs:List AC}{d:t.den}(hk:s.L[k]? =some (.vars T cs))(hd:bq t cs=some d)
 (h:AWP C c Q {env:=s.env.map λx=>(x.1,shV k t d x.2),L:=s.L.set k (.dead 0)}):AWP C c Q s:=by
 intro σ a w hr;have hlt:k<s.L.length:=(Δ.1 hk).1;have hI:=d8 (C:=C) (L':=s.L.set k (.dead 0)) (σ':=σ) (w':=w) k hr.inv (Υ _) rfl rfl rfl (λ_ _ _=>rfl) (λj hj=>by rw[List.getElem?_set_ne (Ne.symm hj)]) (λ_ _=>rfl)
  (λob e=>by rw[hk] at e;cases e;exact⟨.dead 0,by simp[hlt],Υ _,λh=>by cases h⟩)
  (λb ⟨ob,e1,e2,_⟩=>by simp[hlt] at e1;subst e1;cases e2)
  (λ_ _ ob e=>by simp[hlt] at e;subst e;trivial)
 refine h σ a w ⟨hI.1,λt'=>?_,hr.size,hr.defers,hr.pres.trans hI.2⟩;show RV C _ σ w (lkp _ t') _;rw[sI (shV k t d) rfl];have h1:=hr.env t';have h2:=hI.2.rv h1;unfold shV;split
 ·rename_i k' off hv
  split
  ·rename_i ek;subst ek
   rw[hv] at h1;obtain⟨h3,ob,h4,_,h6⟩:=h1;rw[hk] at h4;cases h4;obtain⟨b,hb1,hb2⟩:=h6 rfl rfl;obtain⟨b',vs,e1,e2,e3⟩:=hr.inv.ob k' _ hk;have eb:b'=b:=by rw[e1] at hb1;simpa [blk] using hb1
   subst eb;have hown:own s.L σ k' b':=⟨_,hk,rfl,hb1⟩
   refine⟨h3,b',0,vs,by rw[hb2];simp[AO.esize],?_,(Array.getElem?_eq_some_iff.1 e2).1,λj _=>by rw[Nat.zero_add,ee e2];simp,?_⟩
   ·rintro(hx|⟨j,ob,q1,q2,q3⟩)
    ·exact(hr.inv.off k' b' hown).2 hx
    ·by_cases ej:j=k'
     ·subst ej;simp[hlt] at q1;subst q1;cases q2
     ·rw[List.getElem?_set_ne (Ne.symm ej)] at q1
      exact ej (hr.inv.inj j k' b' ⟨ob,q1,q2,q3⟩ hown)
   ·exact iQ hd (e3.mono λc u hc=>hI.2 c u hc)
  ·rw[hv] at h2;exact h2
 ·exact h2
section
variable {C C':Ctx} {L L':List AO} {σ σ':Sig} {w:World}
theorem B9 (hI:INV C L σ w)(hav:∀ b,avd C' L' σ' b→C.X b∨∃ o T cs,L[o]? =some (.vars T cs)∧own L σ o b){c:AC}{u:Value}(h:RC C L σ w c u):RC C' L' σ' w (fzC L c) u:=by
 have ha:∀ b,b<w.heap.size→avd C' L' σ' b→avd C L σ b:=by
  intro b _ hb;rcases hav b hb with hx|⟨o,_,_,_,ho⟩
  ·exact .inl hx
  ·exact .inr ⟨o,ho⟩
 obtain⟨h1,h2⟩:=h
 cases c with
 |row k ver=>
  simp only[fzC];obtain⟨ob,h3,h4,h5⟩:=h2;rw[h3]
  cases ob with
  |dead _=>exact⟨h1,trivial⟩
  |vars _ _=>exact⟨h1,trivial⟩
  |mp _ _ _=>exact⟨h1,trivial⟩
  |rowc _ _ _ _=>exact⟨h1,trivial⟩
  |itr _ _=>exact⟨h1,trivial⟩
  |fact _ _=>exact⟨h1,trivial⟩
  |row t e v xs=>
   simp only;split
   ·rename_i hv;subst hv
    obtain⟨_,h6⟩:=h5 rfl rfl;refine⟨h1,?_⟩;show Dat _ w (.list t) xs [u];rw[h6];obtain⟨flat,h8,h9,h10⟩:=hI.ob k _ h3;rcases h8.2 with⟨e1,e2⟩|⟨g,cap,cur,e1,_,e3,e4,e5,e6,e7⟩
    ·rw[e1]
     have:xs=[]:=List.eq_nil_of_length_eq_zero e2;subst this;exact fA t
    ·rw[e1]
     have hg:own L σ k g:=⟨_,h3,rfl,by rw[e1];rfl⟩
     refine⟨some ⟨g,0,none⟩,cap,rfl,e4,⟨e5,λh=>by cases h⟩,λ_=>⟨g,0,rfl,?_,(Array.getElem?_eq_some_iff.1 e3).1,λi hi=>⟨_,(h10 i hi).length,λj hj=>?_,(h10 i hi).keep (Υ _) (λ_ _ _=>rfl) ha⟩⟩⟩
     ·intro hb
      rcases hav g hb with hx|⟨o,T,cs,hv,ho⟩
      ·exact(hI.off k g hg).2 hx
      ·have:=hI.inj _ _ g ho hg
       subst this;rw[h3] at hv;cases hv
     ·have hm:(i+1)*t.size≤xs.length*t.size:=Nat.mul_le_mul_right _ hi
      rw[Nat.add_mul,Nat.one_mul] at hm;rw[ee e3,List.getElem?_take_of_lt hj,List.getElem?_drop,← e7,List.getElem?_take_of_lt ω];simp
   ·exact⟨h1,trivial⟩
 |ptr _ _ _ _=>exact⟨h1,trivial⟩
 |mpv _=>exact⟨h1,trivial⟩
 |rwc _ _=>exact⟨h1,trivial⟩
 |suf _ _ _ _=>exact⟨h1,trivial⟩
 |fn f caps=>
  simp only[fzC];split
  ·rename_i hp
   exact fX (c:=.fn f caps) ha hp ⟨h1,h2⟩
  ·exact⟨h1,trivial⟩
 |emp=>exact⟨h1,h2⟩
 |exact _=>exact⟨h1,h2⟩
 |junk=>exact⟨h1,trivial⟩
 |int _ _=>exact⟨h1,h2⟩
 |bool _=>exact⟨h1,h2⟩
 |str _=>exact⟨h1,h2⟩
 |nils=>exact⟨h1,h2⟩
 |nilp=>exact⟨h1,h2⟩
 |list t xs=>exact fX (c:=.list t xs) ha rfl ⟨h1,h2⟩
 |pat t d off=>exact fX (c:=.pat t d off) ha rfl ⟨h1,h2⟩
 |pfn f ds=>exact fX (c:=.pfn f ds) ha rfl ⟨h1,h2⟩
theorem vL (hI:INV C L σ w)(hav:∀ b,avd C' L' σ' b→C.X b∨∃ o T cs,L[o]? =some (.vars T cs)∧own L σ o b){v:AV}{u:Value}(h:RV1 C L σ w v u):RV1 C' L' σ' w (fz1 L v) u:=by
 cases v with
 |undef=>trivial
 |void=>exact h
 |tup _=>exact h.elim
 |one c=>exact B9 hI hav h
 |agg cs=>obtain⟨vs,e,hall⟩:=h;exact⟨vs,e,hall.mapL λc u hc=>B9 hI hav hc⟩
theorem QV (hI:INV C L σ w)(hav:∀ b,avd C' L' σ' b→C.X b∨∃ o T cs,L[o]? =some (.vars T cs)∧own L σ o b){v:AV}{u:Value}(h:RV C L σ w v u):RV C' L' σ' w (fzV L v) u:=by
 cases v with
 |tup vs=>obtain⟨us,e,hall⟩:=h;exact⟨us,e,hall.mapL λc u hc=>vL hI hav hc⟩
 |undef=>trivial
 |void=>exact h
 |one c=>exact vL (v:=.one c) hI hav h
 |agg cs=>exact vL (v:=.agg cs) hI hav h
end
def mvC (m:Nat):AC→AC
 | .ptr 0 v i off=>.ptr m v i off
 |c=>c
def mv1 (m:Nat):AV→AV
 | .one c=>.one (mvC m c)
 |v=>v
def pZ:AC→Bool
 | .ptr 0 0 0 _=>true
 |c=>gu c
def nJ:AV→Bool
 | .one c=>pZ c
 |v=>iK v
def PR (T:TypeId)(cs':List AC)(r:AV)(s':St)(v:AV):Prop:=
 ∃ cs1 rest,s'.L= .vars T cs1::rest∧cs1.map (fzC s'.L)=cs'∧fzV s'.L v=r
theorem Fu {P:Program}{f:FuncId}{fn:Func}{c:Code}{args:List AV}{T:TypeId}{cs cs':List AC}{r:AV}(hf:P.funcs[f]? =some fn)(hb:fn.body=some c)(hname:(fn.name == "runtime.NumGoroutine")=false)(hn:args.length≤fn.ntmps)
 (hp:args.all nJ=true) (hcs:cs.all gu=true)
 (h:∀ C,C.P=P→C.N=fn.ntmps→C.bL=[.vars T cs]→AWP C c (qZ P fn (PR T cs' r)) {env:=cm 0 args,L:=[.vars T cs]})
 (L0:List AO) (m:Nat) (hm:L0[m]? =some (.vars T cs)):cS P L0 f (args.map (mv1 m)) {av:=r,upd:=[(m,.vars T cs')],fp:=[m]}:=by
 refine⟨⟨fn,hf,hname,by rw[hb];rfl⟩,λC L σ w vs hP hI ha hfp hlen=>?_⟩;have hm':L[m]? =some (.vars T cs):=by rw[hfp m η];exact hm
 obtain⟨b0,us,e1,e2,e3⟩:=hI.ob m _ hm';have hown:own L σ m b0:=⟨_,hm',rfl,by rw[e1];rfl⟩
 let C2:Ctx:={P:=P,X:=λb=>C.X b∨∃ o,o≠m∧own L σ o b,keep:=λb=>b<w.heap.size∧b≠b0,w0:=w,N:=fn.ntmps,bL:=[.vars T cs],bσ:=λ_=>σ m,bw:=w}
 let σ2:Sig:=λ_=>σ m
 have hav:∀ b,avd C2 [.vars T cs] σ2 b↔avd C L σ b:=by
  intro b
  constructor
  ·rintro((hx|⟨o,ho,hb⟩)|⟨o,ob,q1,q2,q3⟩)
   ·exact .inl hx
   ·exact .inr ⟨o,hb⟩
   ·cases o with
    |zero=>simp at q1;subst q1;exact .inr ⟨m,_,hm',q2,q3⟩
    |succ o=>simp at q1
  ·rintro(hx|⟨o,hb⟩)
   ·exact .inl (.inl hx)
   ·by_cases eo:o=m
    ·subst eo
     obtain⟨ob,q1,q2,q3⟩:=hb;rw[hm'] at q1;cases q1;exact .inr ⟨0,_,by simp;rfl,rfl,q3⟩
    ·exact .inl (.inr ⟨o,eo,hb⟩)
 have hpure:∀ {c:AC} {u:Value},gu c=true→RC C L σ w c u→RC C2 [.vars T cs] σ2 w c u:=λhp h=>fX (λb _ hb=>(hav b).1 hb) hp h;have hI2:INV C2 [.vars T cs] σ2 w:=by
  refine⟨λo ob e=>?_,λo o' b ⟨ob,q1,_⟩ ⟨ob',q2,_⟩=>?_,λo b ⟨ob,q1,q2,q3⟩=>?_,λb hb=>⟨hb.1,rfl⟩,λb hb=>?_,Υ _,rfl,rfl,rfl⟩
  ·cases o with
   |zero=>
    simp at e;subst e;exact⟨b0,us,e1,e2,e3.weaken λc u hc hcu=>hpure (List.all_eq_true.1 hcs c hc) hcu⟩
   |succ o=>simp at e
  ·cases o with
   |zero=>cases o' with
    |zero=>rfl
    |succ o'=>simp at q2
   |succ o=>simp at q1
  ·have eb:b0=b:=by
    have:σ2 o=σ m:=rfl;rw[this,e1] at q3;simpa [blk] using q3
   subst eb;refine⟨λhk=>hk.2 rfl,?_⟩;rintro(hx|⟨o',ho',hb'⟩)
   ·exact(hI.off m b0 hown).2 hx
   ·exact ho' (hI.inj o' m b0 hb' hown)
  ·rcases hb with hx|⟨o,_,hb⟩
   ·exact Nat.lt_of_lt_of_le (hI.xlt b hx) hI.size
   ·exact jJ hI hb
 have hargs:bv (RV C2 [.vars T cs] σ2 w) args vs:=by
  have:∀ (as:List AV) (us:List Value),(∀ a,a∈as→nJ a=true)→bv (RV C L σ w) (as.map (mv1 m)) us→bv (RV C2 [.vars T cs] σ2 w) as us:=by
   intro as
   induction as with
   |nil=>intro us _ hh;cases us with|nil=>trivial|cons _ _=>exact hh.elim
   |cons a as ih=>
    intro us hm1 hh
    cases us with
    |nil=>exact hh.elim
    |cons u us=>
     refine⟨?_,ih us (λb hb=>hm1 b (List.mem_cons_of_mem _ hb)) hh.2⟩;have hl:=hm1 a (List.mem_cons_self ..);have h1:=hh.1
     cases a with
     |one c=>
      by_cases hpc:gu c=true
      ·have:mvC m c=c:=by cases c<;>first|rfl|cases hpc
       have h1:RC C L σ w (mvC m c) u:=h1;rw[this] at h1;exact hpure hpc h1
      ·cases c with
       |ptr k v i off=>
        have hz:k=0∧v=0∧i=0:=by
         simp only[nJ,pZ] at hl;split at hl
         ·rename_i e;cases e;exact⟨rfl,rfl,rfl⟩
         ·cases hl
        obtain⟨rfl,rfl,rfl⟩:=hz;obtain⟨q0,ob,q1,q2,q3⟩:=(h1:RC C L σ w (.ptr m 0 0 off) u)
        rw[hm'] at q1;cases q1;exact⟨q0,.vars T cs,rfl,Υ _,λ_ _=>q3 rfl rfl⟩
       |row _ _=>simp[nJ,pZ,gu] at hl
       |mpv _=>simp[nJ,pZ,gu] at hl
       |rwc _ _=>simp[nJ,pZ,gu] at hl
       |suf _ _ _ _=>simp[nJ,pZ,gu] at hl
       |fn f caps=>
        simp only[nJ,pZ] at hl;exact absurd hl hpc
       |_=>exact absurd rfl hpc
     |undef=>trivial
     |void=>exact h1
     |agg cs0=>exact nt (λb _ hb=>(hav b).1 hb) hl h1
     |tup vs0=>exact nt (λb _ hb=>(hav b).1 hb) hl h1
  exact this args vs (λa ha=>List.all_eq_true.1 hp a ha) ha
 have hl:=hargs.length;refine(calls_of_wp hf hb (P:=P) (R:=λe w'=>∃ s' σ' v u,e= .returned u∧PR T cs' r s' v∧INV C2 s'.L σ' w'∧RV C2 s'.L σ' w' v u∧eB C2 [.vars T cs] σ2 w s'.L σ' w')
  (wp_mono (h C2 rfl rfl rfl σ2 _ w ⟨hI2,λt=>?_,by simp[C2];omega,rfl,eB.refl _ _ _ _⟩) λe a' w' ⟨s',σ',h1,h2⟩=>?_)).mono λe w' hh=>?_
 ·rw[kT,if_pos (Nat.zero_le _),Nat.sub_zero]
  cases ht:args[t]? with
  |none=>trivial
  |some a=>
   obtain⟨u,hu,hru⟩:=hargs.at_ ht;have:(vs.toArray++Array.replicate (fn.ntmps-vs.toArray.size) undef).getD t undef=u:=by
    have htl:t<vs.length:=(Δ.1 hu).1;simp only[Array.getD_eq_getD_getElem?];rw[Array.getElem?_append_left (by simpa using htl)];simp[hu]
   rw[this];exact hru
 ·obtain⟨he,v,hv,hR⟩:=h1
  obtain⟨u,hu,hru⟩:=oh h2 hv;have hfin:a'.defers=[]∧∃ v,(results fn a'.tmps).run P w'= .ok v w'∧∃ s' σ' v' u,Ending.returned v= .returned u∧PR T cs' r s' v'∧INV C2 s'.L σ' w'∧RV C2 s'.L σ' w' v' u∧eB C2 [.vars T cs] σ2 w s'.L σ' w':=
   ⟨h2.defers,u,hu,s',σ',v,u,rfl,hR,h2.inv,hru,h2.pres⟩
  rcases he with rfl|rfl
  ·exact hfin
  ·exact hfin
 ·obtain⟨s',σ',v,u,rfl,⟨cs1,rest,hL,hcs1,hr⟩,h1,h2,h3⟩:=hh
  refine⟨u,rfl,?_⟩;have hlt:m<L.length:=(Δ.1 hm').1;have hL0:s'.L[0]? =some (.vars T cs1):=by rw[hL];rfl
  obtain⟨b1,us1,f1,f2,f3⟩:=h1.ob 0 _ hL0
  -- the object lies where it lay
  have hpt:RC C2 s'.L σ' w' (.ptr 0 0 0 0) (.pointer (some ⟨b0,0,none⟩)):=h3 _ _ ⟨rfl,_,by simp;rfl,Υ _,λ_ _=>⟨b0,by show blk (σ m)=_;rw[e1];rfl,by simp[AO.esize]⟩⟩;obtain⟨_,ob,q1,q2,q3⟩:=hpt;rw[hL0] at q1;cases q1;obtain⟨b2,q4,q5⟩:=q3 rfl rfl;have eb:b2=b0:=by simp only[Value.pointer.injEq,Option.some.injEq,Addr.mk.injEq] at q5;exact q5.1.symm
  subst eb;have eb1:b1=b2:=by rw[f1] at q4;simpa [blk] using q4
  subst eb1;have hw:∀ b,b<w.heap.size→b≠b1→w'.heap[b]? =w.heap[b]?:=λb hb hne=>(h1.kept b ⟨hb,hne⟩).2;have hX:∀ b,C2.X b→b<w.heap.size→avd C L σ b:=by
   rintro b (hx|⟨o,_,hb⟩) _
   ·exact .inl hx
   ·exact .inr ⟨o,hb⟩
  have hback:∀ b,avd C (L.set m (.vars T cs')) σ b→C2.X b∨∃ o T cs,s'.L[o]? =some (.vars T cs)∧own s'.L σ' o b:=by
   rintro b (hx|⟨o,ob,q1,q2,q3⟩)
   ·exact .inl (.inl hx)
   ·by_cases eo:o=m
    ·subst eo
     rw[e1] at q3;have:b1=b:=by simpa [blk] using q3
     subst this;exact .inr ⟨0,_,_,hL0,_,hL0,rfl,by rw[f1];rfl⟩
    ·rw[List.getElem?_set_ne (Ne.symm eo)] at q1
     exact .inl (.inr ⟨o,eo,ob,q1,q2,q3⟩)
  refine cI (σ':=σ) hI hm' h1.size (h1.os.trans rfl) h1.tape h1.output (λb hb hno=>hw b hb (λe=>hno (e▸hown))) (λ_ _=>rfl) ⟨Υ _,λ_ _=>⟨rfl,rfl,rfl,trivial⟩⟩
   (λ_ b hb=>.inl ⟨_,hm',rfl,hb⟩) (λ_ _=>⟨b1,us1,e1,f2,?_⟩) (λ_ _=>?_)
  ·rw[← hcs1]
   exact f3.mapL λc u hc=>B9 h1 (by rw[hcs1];exact hback) hc
  ·rw[← hr]
   exact QV h1 hback h2
def CLE (a b:AC):Prop:=∀ C L σ w u,RC C L σ w a u→RC C L σ w b u
def Nf (a b:AV):Prop:=∀ C L σ w u,RV1 C L σ w a u→RV1 C L σ w b u
def VLE (a b:AV):Prop:=∀ C L σ w u,RV C L σ w a u→RV C L σ w b u
theorem CLE.refl (a:AC):CLE a a:=λ_ _ _ _ _ h=>h
theorem CLE.of_eq {a b:AC}(e:a=b):CLE a b:=e▸.refl a
theorem VLE.of_eq {a b:AV}(e:a=b):VLE a b:=e▸λ_ _ _ _ _ h=>h
theorem aS {t:Ty}{xs:List t.den}(h:xs=[]):CLE .nils (.list t xs):=λC L σ w u hu=>by
 subst h;obtain⟨h1,h2⟩:=hu;have e:u= .slice none 0 0:=h2;subst e;exact⟨rfl,fA t⟩
theorem aD {a b:AC}(h:CLE a b):Nf (.one a) (.one b):=λC L σ w u hu=>h C L σ w u hu
theorem x7 {a b:AC}(h:CLE a b):VLE (.one a) (.one b):=λC L σ w u hu=>h C L σ w u hu
theorem bv.map2 {α β γ:Type}{r:α→β→Prop}{p:α→γ→Prop}{q:β→γ→Prop}(h:∀ a b c,r a b→p a c→q b c):∀ {as:List α} {bs:List β} {cs:List γ},bv r as bs→bv p as cs→bv q bs cs
 |[],[],[],_,_=>trivial
 |_::_,_::_,_::_,⟨a1,a2⟩,⟨b1,b2⟩=>⟨h _ _ _ a1 b1,a2.map2 h b2⟩
 |[],_::_,_,hh,_=>hh.elim
 |_::_,[],_,hh,_=>hh.elim
 |[],[],_::_,_,hh=>hh.elim
 |_::_,_::_,[],_,hh=>hh.elim
theorem dt {as bs:List AC}(h:bv CLE as bs):Nf (.agg as) (.agg bs):=λC L σ w u ⟨vs,e,ha⟩=>⟨vs,e,h.map2 (λa b c hab hac=>hab C L σ w c hac) ha⟩
theorem Om {as bs:List AC}(h:bv CLE as bs):VLE (.agg as) (.agg bs):=λC L σ w u hu=>dt h C L σ w u hu
theorem bl {as bs:List AV}(h:bv Nf as bs):VLE (.tup as) (.tup bs):=λC L σ w u ⟨vs,e,ha⟩=>⟨vs,e,h.map2 (λa b c hab hac=>hab C L σ w c hac) ha⟩
theorem jn {P:Program}{f:FuncId}{fn:Func}{c:Code}{args:List AV}{r:AV}(hf:P.funcs[f]? =some fn)(hb:fn.body=some c)(hname:(fn.name == "runtime.NumGoroutine")=false)(hn:args.length≤fn.ntmps)(hp:args.all iK=true)
 (h:∀ C,C.P=P→C.N=fn.ntmps→C.bL=[]→AWP C c (qZ P fn λs' v=>VLE (fzV s'.L v) r) {env:=cm 0 args,L:=[]}):aY P f args r:=by
 refine⟨⟨fn,hf,hname,by rw[hb];rfl⟩,λC L σ w vs hP hI ha=>?_⟩;refine(lg hf hb hn hp h hI ha).mono λe w' hh=>?_;obtain⟨s',σ',v,u,rfl,hR,h1,h2⟩:=hh;refine⟨u,rfl,kL h1,hR _ _ _ _ _ ?_⟩;exact nt (λb _ hb=>.inl hb) (yy v) (G4 (σ':=σ') h1 h2)
def Fit:(t:Ty)→t.den→Prop
 | .list t,xs=>List.length xs≤9223372036854775807∧∀ i,i<List.length xs→Fit t (List.getD xs i t.dflt)
 | .pair a b,(x,y)=>Fit a x∧Fit b y
 |_,_=>True
def kD:AC→Prop
 | .list t xs=>Fit (.list t) xs
 | .pat t d _=>Fit t d
 |_=>True
def kd:List AC→Prop
 |[]=>True
 |c::r=>kD c∧kd r
def lc:AV→Prop
 | .one c=>kD c
 | .agg cs=>kd cs
 |_=>True
theorem Dat.fit {av:Nat→Prop}{w:World}:∀ {t:Ty} {d:t.den} {cs:List Value},Dat av w t d cs→Fit t d
 | .int _,_,_,_=>trivial
 | .bool,_,_,_=>trivial
 | .str,_,_,_=>trivial
 | .unit,_,_,_=>trivial
 | .pair a b,(x,y),cs,h=>by
   simp only[Dat] at h;obtain⟨c1,c2,_,h1,h2⟩:=h;exact⟨h1.fit,h2.fit⟩
 | .list t,xs,cs,h=>by
   simp only[Dat] at h;obtain⟨A,c,_,hc,hm,hr⟩:=h;refine⟨?_,λi hi=>?_⟩
   ·have:=hm.1;simp only[maxLen] at this;omega
   ·obtain⟨b,o,_,_,_,hi'⟩:=hr ω
    obtain⟨cs',_,_,hd⟩:=hi' i hi;exact hd.fit
theorem RC.fit {C:Ctx}{L:List AO}{σ:Sig}{w:World}{c:AC}{u:Value}(h:RC C L σ w c u):kD c:=by
 cases c with
 |list t xs=>exact Dat.fit (t:=.list t) h.2
 |pat t d off=>obtain⟨_,b,o,cs,_,_,_,_,hd⟩:=h;exact hd.fit
 |_=>trivial
theorem RV.fit {C:Ctx}{L:List AO}{σ:Sig}{w:World}{v:AV}{u:Value}(h:RV C L σ w v u):lc v:=by
 cases v with
 |one c=>exact RC.fit h
 |agg cs=>
  obtain⟨vs,_,ha⟩:=h;have:∀ (cs:List AC) (vs:List Value),bv (λc u=>RC C L σ w c u) cs vs→kd cs:=by
   intro cs
   induction cs with
   |nil=>intro _ _;trivial
   |cons c cs ih=>
    intro vs h
    cases vs with
    |nil=>exact h.elim
    |cons v vs=>exact⟨h.1.fit,ih vs h.2⟩
  exact this cs vs ha
 |_=>trivial
theorem fT {C:Ctx}{Q:Exit→St→Prop}{s:St}{c:Code}(k:Nat){v:AV}(hk:lkp s.env k=v)(h:lc v→AWP C c Q s):AWP C c Q s:=λσ a w hr=>by
 have h1:=hr.env k;rw[hk] at h1;exact h h1.fit σ a w hr
def bY (n:Nat):AC→Bool
 | .row k _=>decide (k<n)
 | .ptr k _ _ _=>decide (k<n)
 | .mpv k=>decide (k<n)
 | .rwc k _=>decide (k<n)
 | .suf k _ _ _=>decide (k<n)
 | .fn _ caps=>caps.all fun
   | .ref k=>decide (k<n)
   | .pat _ _=>true
   | .pfn _ _=>true
 |_=>true
def mu (n:Nat):AV→Bool
 | .one c=>bY n c
 | .agg cs=>cs.all (bY n)
 |_=>true
def fQ (n:Nat):AV→Bool
 | .tup vs=>vs.all (mu n)
 |v=>mu n v
def cr (n:Nat):AO→Bool
 | .vars _ cs=>cs.all (bY n)
 | .rowc _ _ _ cs=>cs.all (bY n)
 |_=>true
theorem tO {n m:Nat}(h:n≤m){c:AC}(hc:bY n c=true):bY m c=true:=by
 cases c with
 |row k v=>simp only[bY,decide_eq_true_eq] at*;omega
 |ptr k v i o=>simp only[bY,decide_eq_true_eq] at*;omega
 |mpv k=>simp only[bY,decide_eq_true_eq] at*;omega
 |rwc k v=>simp only[bY,decide_eq_true_eq] at*;omega
 |suf k v p cp=>simp only[bY,decide_eq_true_eq] at*;omega
 |fn f caps=>
  simp only[bY] at*;refine List.all_eq_true.2 λc hc'=>?_;have:=List.all_eq_true.1 hc c hc'
  cases c with
  |ref k=>simp only[decide_eq_true_eq] at*;omega
  |pat _ _=>rfl
  |pfn _ _=>rfl
 |_=>rfl
theorem lH {C:Ctx}{L:List AO}{σ:Sig}{w:World}{c:AC}{u:Value}(h:RC C L σ w c u):bY L.length c=true:=by
 cases c with
 |row k v=>obtain⟨_,ob,e,_⟩:=h;simp only[bY,decide_eq_true_eq];exact(Δ.1 e).1
 |ptr k v i o=>obtain⟨_,ob,e,_⟩:=h;simp only[bY,decide_eq_true_eq];exact(Δ.1 e).1
 |mpv k=>obtain⟨_,ob,e,_⟩:=h;simp only[bY,decide_eq_true_eq];exact(Δ.1 e).1
 |rwc k v=>obtain⟨_,ob,e,_⟩:=h;simp only[bY,decide_eq_true_eq];exact(Δ.1 e).1
 |suf k v p cp=>obtain⟨_,ob,e,_⟩:=h;simp only[bY,decide_eq_true_eq];exact(Δ.1 e).1
 |fn f caps=>
  obtain⟨_,vs,_,ha⟩:=h;refine List.all_eq_true.2 λc hc=>?_;obtain⟨i,hi⟩:=List.getElem?_of_mem hc;obtain⟨u,_,hu⟩:=ha.at_ hi
  cases c with
  |ref k=>obtain⟨_,ob,e,_⟩:=hu;simp only[decide_eq_true_eq];exact(Δ.1 e).1
  |pat _ _=>rfl
  |pfn _ _=>rfl
 |_=>rfl
theorem dO {C:Ctx}{Q:Exit→St→Prop}{s:St}{c:Code}{L1:List AO}{ver n:Nat}(hL:s.L=L1++[.dead ver])(hn:L1.length=n)(hB:C.bL.length≤n)(he:s.env.all (λx=>fQ n x.2)=true)(ho:L1.all (cr n)=true)
 (h:AWP C c Q {env:=s.env,L:=L1}):AWP C c Q s:=by
 intro σ a w hr;subst hn;have hlt:∀ {k:Nat},k<L1.length→s.L[k]? =L1[k]?:=λhk=>by rw[hL,List.getElem?_append_left hk]
 have hown:∀ j b,own s.L σ j b↔own L1 σ j b:=by
  intro j b
  constructor
  ·rintro⟨ob,e1,e2,e3⟩
   rcases Nat.lt_or_ge j L1.length with hj|hj
   ·exact⟨ob,by rw[← hlt hj];exact e1,e2,e3⟩
   ·rw[hL,List.getElem?_append_right hj] at e1
    cases hx:j-L1.length with
    |zero=>rw[hx] at e1;simp at e1;subst e1;cases e2
    |succ m=>rw[hx] at e1;simp at e1
  ·rintro⟨ob,e1,e2,e3⟩
   exact⟨ob,by rw[hlt (Δ.1 e1).1];exact e1,e2,e3⟩
 have hav:∀ b,avd C L1 σ b→avd C s.L σ b:=by
  rintro b (hx|⟨j,hj⟩)
  ·exact .inl hx
  ·exact .inr ⟨j,(hown j b).2 hj⟩
 have hRP:∀ k ver i off u,k<L1.length→RP s.L σ k ver i off u→RP L1 σ k ver i off u:=by
  rintro k ver i off u hk ⟨ob,e,r⟩;exact⟨ob,by rw[← hlt hk];exact e,r⟩
 have hdat:∀ {t:Ty} {d:t.den} {cs:List Value},Dat (avd C s.L σ) w t d cs→Dat (avd C L1 σ) w t d cs:=λhd=>hd.keep (Υ _) (λ_ _ _=>rfl) (λb _ hb=>hav b hb);have hpat:∀ t d off u,kQ C s.L σ w t d off u→kQ C L1 σ w t d off u:=by
  rintro t d off u ⟨b,o,cs,e,h1,h2,h3,h4⟩;exact⟨b,o,cs,e,λhx=>h1 (hav b hx),h2,h3,hdat h4⟩
 have hfnn:∀ f ds u,RFN C s.L σ w f ds u→RFN C L1 σ w f ds u:=by
  rintro f ds u ⟨b,o,vs,e,h1,h2,h3,h4⟩;exact⟨b,o,vs,e,λhx=>h1 (hav b hx),h2,h3,h4.mono λp u hp=>⟨hp.1,hpat _ _ _ _ hp.2⟩⟩
 have hC:∀ (c:AC) (u:Value),bY L1.length c=true→RC C s.L σ w c u→RC C L1 σ w c u:=by
  rintro c u hf ⟨h1,h2⟩;refine⟨h1,?_⟩
  cases c with
  |row k v=>
   simp only[bY,decide_eq_true_eq] at hf;obtain⟨ob,e,r⟩:=h2;exact⟨ob,by rw[← hlt hf];exact e,r⟩
  |ptr k v i off=>simp only[bY,decide_eq_true_eq] at hf;exact hRP _ _ _ _ _ hf h2
  |mpv k=>
   simp only[bY,decide_eq_true_eq] at hf;obtain⟨ob,e,r⟩:=h2;exact⟨ob,by rw[← hlt hf];exact e,r⟩
  |rwc k v=>
   simp only[bY,decide_eq_true_eq] at hf;obtain⟨ob,e,r⟩:=h2;exact⟨ob,by rw[← hlt hf];exact e,r⟩
  |suf k v p cp=>
   simp only[bY,decide_eq_true_eq] at hf;obtain⟨ob,e,r⟩:=h2;exact⟨ob,by rw[← hlt hf];exact e,r⟩
  |fn f caps=>
   obtain⟨vs,e,ha⟩:=h2;refine⟨vs,e,ha.weaken λc u hc hcu=>?_⟩;have:=List.all_eq_true.1 hf c hc
   cases c with
   |ref k=>simp only[decide_eq_true_eq] at this;exact⟨hcu.1,hRP _ _ _ _ _ this hcu.2⟩
   |pat t d=>exact⟨hcu.1,hpat _ _ _ _ hcu.2⟩
   |pfn f ds=>exact⟨hcu.1,hfnn _ _ _ hcu.2⟩
  |list t xs=>exact hdat (t:=.list t) h2
  |pat t d off=>exact hpat _ _ _ _ h2
  |pfn f ds=>exact hfnn _ _ _ h2
  |_=>exact h2
 have h1V:∀ (v:AV) (u:Value),mu L1.length v=true→RV1 C s.L σ w v u→RV1 C L1 σ w v u:=by
  intro v u hf h1
  cases v with
  |undef=>trivial
  |void=>exact h1
  |one c=>exact hC c u hf h1
  |agg cs=>obtain⟨vs,e,ha⟩:=h1;exact⟨vs,e,ha.weaken λc u hc hcu=>hC c u (List.all_eq_true.1 hf c hc) hcu⟩
  |tup _=>exact h1.elim
 have hV:∀ (v:AV) (u:Value),fQ L1.length v=true→RV C s.L σ w v u→RV C L1 σ w v u:=by
  intro v u hf h1
  cases v with
  |tup vs=>obtain⟨us,e,ha⟩:=h1;exact⟨us,e,ha.weaken λc u hc hcu=>h1V c u (List.all_eq_true.1 hf c hc) hcu⟩
  |undef=>trivial
  |void=>exact h1
  |one c=>exact h1V (.one c) u hf h1
  |agg cs=>exact h1V (.agg cs) u hf h1
 have hi:=hr.inv;refine h σ a w ⟨⟨λo ob e=>?_,λo o' b h1 h2=>hi.inj o o' b ((hown o b).2 h1) ((hown o' b).2 h2),λo b h1=>hi.off o b ((hown o b).2 h1),hi.kept,hi.xlt,hi.size,hi.os,hi.tape,hi.output⟩,λt=>?_,hr.size,hr.defers,λc u hcu=>?_⟩
 ·have hlo:=(Δ.1 e).1
  have h1:=hi.ob o ob (by rw[hlt hlo];exact e);have hfo:=List.all_eq_true.1 ho ob (List.mem_of_getElem? e)
  cases ob with
  |dead _=>trivial
  |vars T cs=>
   obtain⟨b,vs,e1,e2,e3⟩:=h1;exact⟨b,vs,e1,e2,e3.weaken λc u hc hcu=>hC c u (List.all_eq_true.1 hfo c hc) hcu⟩
  |row t e v xs=>
   obtain⟨flat,h2,h0,h3⟩:=h1;exact⟨flat,h2,h0,λi hi=>hdat (h3 i hi)⟩
  |mp T vk es=>exact h1
  |itr s pos=>exact h1
  |fact g x=>exact⟨h1.1,λhx=>h1.2 (hx.elim .inl fun⟨o,q⟩=>.inr ⟨o,(hown o g).2 q⟩)⟩
  |rowc e sz v cs=>
   obtain⟨flat,n,h2,h0,hl0,h3⟩:=h1;exact⟨flat,n,h2,h0,hl0,h3.weaken λc u hc hcu=>hC c u (List.all_eq_true.1 hfo c hc) hcu⟩
 ·refine hV _ _ ?_ (hr.env t)
  have:∀ env:Env,env.all (λx=>fQ L1.length x.2)=true→fQ L1.length (lkp env t)=true:=by
   intro env
   induction env with
   |nil=>intro _;rfl
   |cons x env ih=>
    intro hx;simp only[List.all_cons,Bool.and_eq_true] at hx;simp only[lkp];split
    ·exact hx.1
    ·exact ih hx.2
  exact this _ he
 ·exact hC c u (tO hB (lH hcu)) (hr.pres c u hcu)
theorem eu {C:Ctx}{Q:Exit→St→Prop}{s:St}{c:Code}(k j:Nat)(t:Ty)(e:TypeId){T:TypeId}{cs:List AC}(ht:0<t.size)(hk:s.L[k]? =some (.vars T cs))(hj:cs[j]? =some .nils)
 (h:AWP C c Q {env:=s.env,L:=s.L.set k (.vars T (cs.set j (.row s.L.length 0)))++[.row t e 0 []]}):AWP C c Q s:=by
 intro σ a w hr;have hlt:k<s.L.length:=(Δ.1 hk).1;have hg:∀ ob',s.L[s.L.length]? =some ob'→False:=λob' e=>by rw[List.getElem?_eq_none (Υ _)] at e;cases e
 have hlast:(s.L++[AO.row t e 0 []])[s.L.length]? =some (.row t e 0 []):=η;have t1:=d8 (C:=C) (L':=s.L++[.row t e 0 []]) (σ':=sup σ s.L.length (.slice none 0 0)) (w':=w) s.L.length hr.inv (Υ _) rfl rfl rfl (λ_ _ _=>rfl)
  (λk hk=>by
    rcases Nat.lt_or_ge k s.L.length with hl|hl
    ·rw[List.getElem?_append_left hl]
    ·rw[List.getElem?_eq_none (by simp;omega),List.getElem?_eq_none hl])
  (λk hk=>d6 σ _ hk) (λob' e=>(hg ob' e).elim)
  (λb ⟨ob',e1,e2,e3⟩=>by rw[aR] at e3;cases e3)
  (λhp _ ob' e'=>by rw[hlast] at e';cases e';exact⟨[],⟨η,.inl ⟨by rw[aR],rfl⟩⟩,ht,λi hi=>by cases hi⟩)
 generalize hL1:s.L++[AO.row t e 0 []]=L1 at*
 generalize hs1:sup σ s.L.length (.slice none 0 0)=σ1 at*
 have hk':L1[k]? =some (.vars T cs):=by rw[← hL1,List.getElem?_append_left hlt];exact hk
 have hlt':k<L1.length:=(Δ.1 hk').1;have hσ:σ1 s.L.length= .slice none 0 0:=by rw[← hs1,aR]
 have t2:=d8 (C:=C) (L':=L1.set k (.vars T (cs.set j (.row s.L.length 0)))) (σ':=σ1) (w':=w) k t1.1 (Υ _) rfl rfl rfl (λ_ _ _=>rfl)
  (λi hi=>by rw[List.getElem?_set_ne (Ne.symm hi)]) (λ_ _=>rfl)
  (λob e'=>by rw[hk'] at e';cases e';exact⟨.vars T (cs.set j (.row s.L.length 0)),by simp[hlt'],Υ _,λ_ _=>⟨rfl,rfl,rfl,trivial⟩⟩)
  (λb ⟨ob,e1,e2,e3⟩=>.inl ⟨_,hk',rfl,e3⟩)
  (λhp _ ob e'=>by
    simp[hlt'] at e';subst e';obtain⟨b,vs,e1,e2,e3⟩:=t1.1.ob k _ hk';refine⟨b,vs,e1,e2,?_⟩;obtain⟨u,hu,hcu⟩:=e3.at_ hj;have hvs:vs.set j u=vs:=by
     apply List.ext_getElem?;intro i;rw[List.getElem?_set];split
     ·rename_i e;subst e;split
      ·exact hu.symm
      ·rename_i hh;exact absurd (Δ.1 hu).1 hh
     ·rfl
    rw[← hvs];have hnew:RC C L1 σ1 w (.row s.L.length 0) u:=⟨hcu.1,_,hlast,Υ _,λ_ _=>⟨⟨_,_,_,rfl⟩,by rw[hσ];exact hcu.2⟩⟩
    exact(e3.mono λc v hcv=>hp c v hcv).set j (hp _ _ hnew))
 refine h σ1 a w ⟨?_,λt'=>?_,hr.size,hr.defers,?_⟩
 all_goals(have hset:s.L.set k (.vars T (cs.set j (.row s.L.length 0)))++[AO.row t e 0 []]=L1.set k (.vars T (cs.set j (.row s.L.length 0))):=by rw[← hL1,List.set_append,if_pos hlt])
 ·show INV C (s.L.set k (.vars T (cs.set j (.row s.L.length 0)))++[AO.row t e 0 []]) σ1 w
  rw[hset];exact t2.1
 ·show RV C (s.L.set k (.vars T (cs.set j (.row s.L.length 0)))++[AO.row t e 0 []]) σ1 w _ _
  rw[hset];exact t2.2.rv (t1.2.rv (hr.env t'))
 ·show eB C C.bL C.bσ C.bw (s.L.set k (.vars T (cs.set j (.row s.L.length 0)))++[AO.row t e 0 []]) σ1 w
  rw[hset];exact(hr.pres.trans t1.2).trans t2.2
theorem EJ {P:Program}{f:FuncId}{args:List AV}{r r':AV}(h:aY P f args r)(hv:VLE r r'):aY P f args r':=
 ⟨h.1,λC L σ w vs hP hI ha=>(h.2 C L σ w vs hP hI ha).mono λe w' ⟨v,e1,hm,hr⟩=>⟨v,e1,hm,hv _ _ _ _ _ hr⟩⟩
theorem CD {P:Program}{f:FuncId}{t:Ty}{xs:List t.den}{r:AV}(h0:xs=[]→aY P f [.one .nils] r)(h1:xs=[]→aY P f [.one .emp] r)(h2:0<xs.length→aY P f [.one (.list t xs)] r)(hc:j5 P f):aY P f [.one (.list t xs)] r:=by
 refine⟨hc,λC L σ w vs hP hI ha=>?_⟩;obtain⟨u,rfl,hu⟩:=ha.one;rcases oe hu with⟨e,h⟩|⟨e,h⟩|h
 ·exact(h0 e).2 C L σ w _ hP hI ⟨h,trivial⟩
 ·exact(h1 e).2 C L σ w _ hP hI ⟨h,trivial⟩
 ·exact(h2 h).2 C L σ w _ hP hI ⟨hu,trivial⟩
end Go.AV
