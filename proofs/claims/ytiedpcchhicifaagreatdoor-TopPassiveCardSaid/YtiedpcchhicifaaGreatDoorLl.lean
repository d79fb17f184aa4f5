/- Part of the proof. -/
import Derived.Test.YtiedpcchhicifaaGreatDoorLk
set_option linter.unusedSimpArgs false
set_option linter.unusedVariables false
open Option.some renaming injEq→Λ
namespace Go.AV
open Go Go.RowKit
def put (s:St)(o:Oper)(out:Out):St:=
 {env:=match o.dst with|some d=>(d,out.av)::s.env|none=>s.env,L:=app s.L out}
def pw (ops:List Oper)(g:Nat):Option Nat:=(ops[g]?).bind (·.dst)
abbrev Tr:=List (List Nat×List Nat×Nat)
def cQ (out:Out):List Nat×List Nat×Nat:=(out.upd.map (·.1),out.fp,out.new.length)
def gval (ops:List Oper)(s:Env)(o:Oper):Option Bool:=
 match o.guard with
 |none=>some true
 |some (g,want)=>match pw ops g with
  |some d=>match lkp s d with
   | .one (.bool b)=>some (b == want)
   | .void=>some false
   |_=>none
  |none=>none
def l7 (C:Ctx)(ops:List Oper)(s:St)(o:Oper)(out:Out):Prop:=
 (gval ops s.env o=some true∧bG C s.L o (ev s.env) out)∨(gval ops s.env o=some false∧out={av:=.void})
def LEX (C:Ctx)(ops:List Oper):List Oper→St→List Out→St→Prop
 |[],s,[],s'=>s'=s
 |o::rest,s,out::outs,s'=>l7 C ops s o out∧LEX C ops rest (put s o out) outs s'
 |_,_,_,_=>False
def EQ (s s':St):Prop:=(∀ t,lkp s.env t=lkp s'.env t)∧s.L=s'.L
theorem EQ.refl (s:St):EQ s s:=⟨λ_=>rfl,rfl⟩
theorem EQ.symm {s s':St}(h:EQ s s'):EQ s' s:=⟨λt=>(h.1 t).symm,h.2.symm⟩
theorem EQ.trans {a b c:St}(h:EQ a b)(k:EQ b c):EQ a c:=⟨λt=>(h.1 t).trans (k.1 t),h.2.trans k.2⟩
theorem EQ.ev {s s':St}(h:EQ s s'):ev s.env=ev s'.env:=by
 funext x
 cases x<;>simp[AV.ev,h.1]
theorem fb (s:St)(o:Oper)(out:Out)(t:Nat):lkp (put s o out).env t=if o.dst=some t then out.av else lkp s.env t:=by
 unfold put
 cases h:o.dst with
 |none=>simp
 |some d=>
  simp only[lkp,Λ]
  by_cases e:t=d
  ·subst e;simp
  ·simp[e,Ne.symm e]
theorem EQ.put {s s':St}(h:EQ s s')(o:Oper)(out:Out):EQ (put s o out) (put s' o out):=
 ⟨λt=>by rw[fb,fb,h.1],by simp only[AV.put,h.2]⟩
theorem EQ.gval {s s':St}(h:EQ s s')(ops:List Oper)(o:Oper):gval ops s.env o=gval ops s'.env o:=by
 unfold AV.gval
 cases o.guard with
 |none=>rfl
 |some g=>cases pw ops g.1<;>simp[h.1]
theorem EQ.step {C:Ctx}{ops:List Oper}{s s':St}(h:EQ s s'){o:Oper}{out:Out}(k:l7 C ops s' o out):l7 C ops s o out:=by
 unfold l7 at*;rw[h.gval,h.ev,h.2];exact k
theorem LEX.eq {C:Ctx}{ops:List Oper}:∀ {l:List Oper} {s s1:St} {outs:List Out} {s2:St},EQ s s1→LEX C ops l s1 outs s2→∃ s3,LEX C ops l s outs s3∧EQ s3 s2
 |[],s,s1,[],s2,h,k=>⟨s,rfl,by rw[(k:s2=s1)];exact h⟩
 |o::l,s,s1,out::outs,s2,h,k=>by
  obtain⟨k1,k2⟩:=k;obtain⟨s3,h3,h4⟩:=LEX.eq (h.put o out) k2;exact⟨s3,⟨h.step k1,h3⟩,h4⟩
 |[],_,_,_::_,_,_,k=>k.elim
 |_::_,_,_,[],_,_,k=>k.elim
def SUB (s0 s:St):Prop:=(∀ t,lkp s0.env t= .undef∨lkp s0.env t=lkp s.env t)∧s0.L=s.L
theorem REL.sub {C:Ctx}{s0 s:St}{σ:Sig}{a:Act}{w:World}(h:SUB s0 s)(k:REL C s σ a w):REL C s0 σ a w:=by
 refine⟨by rw[h.2];exact k.inv,λt=>?_,k.size,k.defers,by rw[h.2];exact k.pres⟩;rcases h.1 t with e|e
 ·rw[e];trivial
 ·rw[e,h.2];exact k.env t
theorem SUB.refl (s:St):SUB s s:=⟨λ_=>.inr rfl,rfl⟩
theorem SUB.trans {a b c:St}(h:SUB a b)(k:SUB b c):SUB a c:=by
 refine⟨λt=>?_,h.2.trans k.2⟩;rcases h.1 t with e|e
 ·exact .inl e
 ·rcases k.1 t with e'|e'
  ·exact .inl (e.trans e')
  ·exact .inr (e.trans e')
theorem SUB.put {s0 s:St}(h:SUB s0 s)(o:Oper)(out:Out):SUB (put s0 o out) (put s o out):=by
 refine⟨λt=>?_,by simp only[AV.put,h.2]⟩;rw[fb,fb]
 by_cases e:o.dst=some t
 ·rw[if_pos e,if_pos e];exact .inr rfl
 ·rw[if_neg e,if_neg e];exact h.1 t
theorem SUB.gval {s0 s:St}(h:SUB s0 s){ops:List Oper}{o:Oper}{b:Bool}(k:gval ops s0.env o=some b):gval ops s.env o=some b:=by
 unfold AV.gval at*
 cases hg:o.guard with
 |none=>rw[hg] at k;exact k
 |some g=>
  obtain⟨g,want⟩:=g;rw[hg] at k;simp only at k⊢
  cases hd:pw ops g with
  |none=>rw[hd] at k;cases k
  |some d=>
   rw[hd] at k;simp only at k⊢;rcases h.1 d with e|e
   ·rw[e] at k;cases k
   ·rw[← e];exact k
theorem SUB.step {C:Ctx}{ops:List Oper}{s0 s:St}(h:SUB s0 s){o:Oper}{out:Out}(k:l7 C ops s0 o out):l7 C ops s o out:=by
 rcases k with⟨k1,k2⟩|⟨k1,k2⟩
 ·refine .inl ⟨h.gval k1,λL σ w ρ hi hx hfp hlen=>?_⟩
  rw[← h.2] at hfp hlen;refine k2 L σ w ρ hi (λx hxm=>?_) hfp hlen;have h1:=hx x hxm
  cases x with
  |tmp t=>
   rcases h.1 t with e|e
   ·show RV C L σ w (lkp s0.env t) _
    rw[e];trivial
   ·show RV C L σ w (lkp s0.env t) _
    rw[e];exact h1
  |_=>exact h1
 ·exact .inr ⟨h.gval k1,k2⟩
theorem LEX.sub {C:Ctx}{ops:List Oper}:∀ {l:List Oper} {s0 s:St} {outs:List Out} {s2:St},SUB s0 s→LEX C ops l s0 outs s2→∃ s3,LEX C ops l s outs s3∧SUB s2 s3
 |[],s0,s,[],s2,h,k=>⟨s,rfl,by rw[(k:s2=s0)];exact h⟩
 |o::l,s0,s,out::outs,s2,h,k=>by
  obtain⟨k1,k2⟩:=k;obtain⟨s3,h3,h4⟩:=LEX.sub (h.put o out) k2;exact⟨s3,⟨h.step k1,h3⟩,h4⟩
 |[],_,_,_::_,_,_,k=>k.elim
 |_::_,_,_,[],_,_,k=>k.elim
theorem LEX.append {C:Ctx}{ops:List Oper}:∀ {l l':List Oper} {s s1 s2:St} {outs outs':List Out},LEX C ops l s outs s1→LEX C ops l' s1 outs' s2→LEX C ops (l++l') s (outs++outs') s2
 |[],_,s,s1,_,[],_,h,k=>by rw[(h:s1=s)] at k;exact k
 |o::l,l',s,s1,s2,out::outs,outs',h,k=>⟨h.1,h.2.append k⟩
 |[],_,_,_,_,_::_,_,h,_=>h.elim
 |_::_,_,_,_,_,[],_,h,_=>h.elim
def xB (a b:List Nat×List Nat×Nat):Prop:=(∀ x,x∈a.1→x∈b.1)∧(∀ x,x∈a.2.1→x∈b.2.1)∧a.2.2≤b.2.2
def TLE (a b:Tr):Prop:=bv xB a b
theorem xB.refl (a:List Nat×List Nat×Nat):xB a a:=⟨λ_ h=>h,λ_ h=>h,Nat.le_refl _⟩
theorem TLE.refl:∀ a:Tr,TLE a a
 |[]=>trivial
 |a::r=>⟨xB.refl a,TLE.refl r⟩
theorem TLE.trans:∀ {a b c:Tr},TLE a b→TLE b c→TLE a c
 |[],[],[],_,_=>trivial
 |_::_,_::_,_::_,⟨h1,h2⟩,⟨k1,k2⟩=>⟨⟨λx hx=>k1.1 x (h1.1 x hx),λx hx=>k1.2.1 x (h1.2.1 x hx),Nat.le_trans h1.2.2 k1.2.2⟩,TLE.trans h2 k2⟩
 |[],_::_,_,h,_=>h.elim
 |_::_,[],_,h,_=>h.elim
 |[],[],_::_,_,k=>k.elim
 |_::_,_::_,[],_,k=>k.elim
def RG (P:Program)(ops:List Oper)(l:List Oper)(s:St)(tr:Tr)(K:St→Tr→Prop):Prop:=
 ∀ C:Ctx,C.P=P→∃ outs s1 s2 tr',LEX C ops l s outs s1∧SUB s2 s1∧TLE (tr++outs.map cQ) tr'∧K s2 tr'
section
variable {P:Program} {ops rest:List Oper} {o:Oper} {s:St} {tr:Tr} {K:St→Tr→Prop}
theorem ah (h:K s tr):RG P ops [] s tr K:=λ_ _=>⟨[],s,s,tr,rfl,.refl _,by simpa using TLE.refl tr,h⟩
theorem d4 {out:Out}(hs:∀ C:Ctx,C.P=P→l7 C ops s o out)(h:RG P ops rest (put s o out) (tr++[cQ out]) K):RG P ops (o::rest) s tr K:=λC hC=>by
 obtain⟨outs,s1,s2,tr',h1,h2,h3,h4⟩:=h C hC;exact⟨out::outs,s1,s2,tr',⟨hs C hC,h1⟩,h2,by simpa using h3,h4⟩
theorem db (hg:gval ops s.env o=some true)(h:∀ K':Out→Prop,(∀ out,RG P ops rest (put s o out) (tr++[cQ out]) K→K' out)→op1 P s o K'):RG P ops (o::rest) s tr K:=λC hC=>by
 subst hC;obtain⟨out,h1,h2⟩:=wi (C:=C) (h _ λ_ h=>h);obtain⟨outs,s1,s2,tr',h3,h4,h5,h6⟩:=h2 C rfl;exact⟨out::outs,s1,s2,tr',⟨.inl ⟨hg,h1⟩,h3⟩,h4,by simpa using h5,h6⟩
theorem aw (hg:o.guard=none)(h:∀ K':Out→Prop,(∀ out,RG P ops rest (put s o out) (tr++[cQ out]) K→K' out)→op1 P s o K'):RG P ops (o::rest) s tr K:=
 db (by simp[gval,hg]) h
theorem Q8 (hg:gval ops s.env o=some false)(h:RG P ops rest (put s o {av:=.void}) (tr++[([],[],0)]) K):RG P ops (o::rest) s tr K:=
 d4 (out:={av:=.void}) (λ_ _=>.inr ⟨hg,rfl⟩) h
def p9 (ops:List Oper)(m:Nat)(want:Bool):List Nat→List Oper→Bool
 |_,[]=>true
 |void,o::r=>(match o.guard with
  |some (g,w)=>(match pw ops g with|some d=>(d == m&&w == want)||(void.contains d&& !(d == m))|none=>false)
  |none=>false)&& !(o.dst == some m)&&p9 ops m want (o.dst.toList++void) r
theorem Am {C:Ctx}{ops:List Oper}{m:Nat}{want:Bool}:∀ {l:List Oper} {s:St} {void:List Nat},p9 ops m want void l=true→lkp s.env m= .one (.bool !want)→(∀ d,d∈void→lkp s.env d= .void)→
 ∃ s1,LEX C ops l s (List.replicate l.length {av:=.void}) s1∧lkp s1.env m= .one (.bool !want)∧s1.L=s.L∧∀ t,(∀ o,o∈l→o.dst≠some t)→lkp s1.env t=lkp s.env t
 |[],s,_,_,h,_=>⟨s,rfl,h,rfl,λ_ _=>rfl⟩
 |o::l,s,void,hk,hm,hv=>by
  simp only[p9,Bool.and_eq_true] at hk;obtain⟨⟨h1,h2⟩,h3⟩:=hk;have hdm:o.dst≠some m:=by simpa using h2
  have hput:lkp (put s o {av:=.void}).env m= .one (.bool !want):=by rw[fb,if_neg hdm];exact hm
  obtain⟨s1,h4,h5,h6,h7⟩:=Am (s:=put s o {av:=.void}) h3 hput (λd hd=>by
   rw[fb];split
   ·rfl
   ·rename_i hne
    rcases List.mem_append.1 hd with hd|hd
    ·simp at hd;exact absurd hd hne
    ·exact hv d hd)
  refine⟨s1,⟨.inr ⟨?_,rfl⟩,h4⟩,h5,by rw[h6];simp[put,app,cD],λt ht=>?_⟩
  ·unfold gval
   cases hg:o.guard with
   |none=>rw[hg] at h1;cases h1
   |some gw=>
    obtain⟨g,w⟩:=gw;rw[hg] at h1;simp only at h1⊢
    cases hd:pw ops g with
    |none=>rw[hd] at h1;cases h1
    |some d=>
     rw[hd] at h1;simp only[Bool.or_eq_true,Bool.and_eq_true,beq_iff_eq] at h1⊢;rcases h1 with⟨rfl,rfl⟩|⟨h1,_⟩
     ·rw[hm];cases w<;>rfl
     ·rw[hv d (by simpa using h1)]
  ·rw[h7 t λo' ho'=>ht o' (List.mem_cons_of_mem _ ho'),fb,if_neg (ht o (List.mem_cons_self ..))]
def fE (env:Env)(t:Nat):Bool:=(env.map (·.1)).contains t
def AJ (env:Env)(l:List Oper):Bool:=l.all λo=>match o.dst with|some d=>!fE env d|none=>true
theorem tn {env:Env}{t:Nat}(h:fE env t=false):lkp env t= .undef:=by
 unfold fE at h
 induction env with
 |nil=>rfl
 |cons x env ih=>
  obtain⟨k,v⟩:=x;simp only[List.map_cons,List.contains_cons,Bool.or_eq_false_iff,beq_eq_false_iff_ne] at h;simp only[lkp];rw[if_neg h.1];exact ih h.2
theorem Nl {m r:Nat}{want b y:Bool}{tr1:Tr}(seg:List Oper)(po:Oper)(hb:lkp s.env m= .one (.bool b))(hsk:p9 ops m want [] seg=true)(hkeys:AJ s.env (seg++[po])=true)
 (hpd:po.dst=some r) (hpg:gval ops s.env po=some true) {cx cy:Operand} (hpo:po.op= .pick (.tmp m) cx cy) (hconst:(if want then cy else cx)= .const (.bool !want))
 (h1:b=want→RG P ops (seg++[po]) {env:=(m,.one (.bool want))::s.env,L:=s.L} tr λs' tr'=>lkp s'.env r= .one (.bool y)∧s'.L=s.L∧(∀ k,fE s.env k=true→lkp s.env k=lkp s'.env k)∧tr'=tr1)
 (htr:TLE (tr++List.replicate (seg.length+1) ([],[],0)) tr1)
 (h2:RG P ops rest {env:=(r,.one (.bool (if b=want then y else !want)))::s.env,L:=s.L} tr1 K):RG P ops (seg++po::rest) s tr K:=λC hC=>by
 have hl:seg++po::rest=(seg++[po])++rest:=η;rw[hl]
 -- the state eD the part,whichever way
 have key:∃ outs s1,LEX C ops (seg++[po]) s outs s1∧SUB {env:=(r,.one (.bool (if b=want then y else !want)))::s.env,L:=s.L} s1∧TLE (tr++outs.map cQ) tr1:=by
  by_cases hbw:b=want
  ·obtain⟨outs,s1,s2,tr',q1,q2,q3,q4,q5,q6,rfl⟩:=h1 hbw C hC
   have hsub:SUB {env:=(m,.one (.bool want))::s.env,L:=s.L} s:=⟨λt=>by
    simp only[lkp];split
    ·rename_i e;rw[e,hb,hbw];exact .inr rfl
    ·exact .inr rfl,rfl⟩
   obtain⟨s3,q7,q8⟩:=q1.sub hsub;refine⟨outs,s3,q7,⟨λt=>?_,?_⟩,q3⟩
   ·simp only[lkp]
    by_cases e:t=r
    ·rw[if_pos e,if_pos hbw,e]
     have:=(q2.trans q8).1 r;rw[q4] at this;rcases this with h|h
     ·cases h
     ·exact .inr h
    ·rw[if_neg e]
     by_cases hk:fE s.env t=true
     ·rw[q6 t hk]
      exact(q2.trans q8).1 t
     ·exact .inl (tn (by simpa using hk))
   ·exact q5.symm.trans (q2.trans q8).2
  ·have hbn:b= !want:=by cases b<;>cases want<;>simp_all
   obtain⟨s1,q1,q2,q3,q4⟩:=Am (C:=C) (s:=s) hsk (by rw[hb,hbn]) (λd hd=>by cases hd);have hkeep:∀ t,fE s.env t=true→lkp s1.env t=lkp s.env t:=λt ht=>q4 t λo ho hd=>by
    have:=List.all_eq_true.1 hkeys o (List.mem_append.2 (.inl ho));rw[hd] at this;simp only[ht] at this;cases this
   have hpgd:gval ops s1.env po=some true:=by
    unfold gval at*
    cases hg:po.guard with
    |none=>rfl
    |some g=>
     obtain⟨g,w⟩:=g;rw[hg] at hpg;simp only at hpg⊢
     cases hd:pw ops g with
     |none=>rw[hd] at hpg;cases hpg
     |some d=>
      rw[hd] at hpg;simp only at hpg⊢
      by_cases hk:fE s.env d=true
      ·rw[hkeep d hk];exact hpg
      ·rw[tn (by simpa using hk)] at hpg;cases hpg
   have hev:ev s1.env (.tmp m)= .one (.bool !want):=q2;have hgood:=y0 (C:=C) (L0:=s1.L) (opn:=ev s1.env) hpo hev;have hval:(if(!want)=true then ev s1.env cx else ev s1.env cy)= .one (.bool !want):=by
    cases want
    ·simp only[Bool.not_false,if_true]
     have:cx= .const (.bool true):=by simpa using hconst
     rw[this];rfl
    ·simp only[Bool.not_true,Bool.false_eq_true,if_false]
     have:cy= .const (.bool false):=by simpa using hconst
     rw[this];rfl
   rw[hval] at hgood;have hone:LEX C ops [po] s1 [{av:=.one (.bool !want)}] (put s1 po {av:=.one (.bool !want)}):=⟨.inl ⟨hpgd,hgood⟩,rfl⟩
   refine⟨List.replicate seg.length {av:=.void}++[{av:=.one (.bool !want)}],put s1 po {av:=.one (.bool !want)},q1.append hone,⟨λt=>?_,?_⟩,?_⟩
   ·rw[fb,hpd]
    simp only[lkp,Λ]
    by_cases e:t=r
    ·rw[if_pos e,if_pos e.symm,if_neg hbw];exact .inr rfl
    ·rw[if_neg e,if_neg (Ne.symm e)]
     by_cases hk:fE s.env t=true
     ·exact .inr (hkeep t hk).symm
     ·exact .inl (tn (by simpa using hk))
   ·simp[put,app,cD,q3]
   ·have e:(List.replicate seg.length ({av:=AV.void}:Out)++[({av:=AV.one (.bool !want)}:Out)]).map cQ=List.replicate (seg.length+1) ([],[],0):=by
     rw[List.map_append,List.map_replicate,List.replicate_succ']
     rfl
    rw[e];exact htr
 obtain⟨outs,s1,k1,k2,k3⟩:=key;obtain⟨outs',s2,s3,tr2,k4,k5,k6,k7⟩:=h2 C hC;obtain⟨s4,k8,k9⟩:=k4.sub k2;refine⟨outs++outs',s4,s3,tr2,k1.append k8,k5.trans k9,?_,k7⟩;have happ:∀ (a b c:Tr),TLE a b→TLE (a++c) (b++c):=by
  intro a
  induction a with
  |nil=>intro b c h;cases b with|nil=>exact TLE.refl _|cons _ _=>exact h.elim
  |cons x a ih=>intro b c h;cases b with|nil=>exact h.elim|cons y b=>exact⟨h.1,ih b c h.2⟩
 rw[List.map_append,← List.append_assoc];exact(happ _ _ _ k3).trans k6
end
theorem REL.eq {C:Ctx}{s s':St}{σ:Sig}{a:Act}{w:World}(h:EQ s s')(k:REL C s σ a w):REL C s' σ a w:=
 ⟨by rw[← h.2];exact k.inv,λt=>by rw[← h.1,← h.2];exact k.env t,k.size,k.defers,by rw[← h.2];exact k.pres⟩
theorem z9 {a:Act}{d:Nat}(hd:d<a.tmps.size)(v:Value)(t:Nat):(a.put (some d) v).tmps.getD t undef=if d=t then v else a.tmps.getD t undef:=by
 simp only[Act.put,Array.getD_eq_getD_getElem?,Array.getElem?_setIfInBounds]
 by_cases e:d=t
 ·subst e;simp[hd]
 ·simp[e]
theorem REL.put {C:Ctx}{s:St}{σ:Sig}{a:Act}{w w':World}{o:Oper}{out:Out}{v:Value}(h:REL C s σ a w)(hd:∀ d,o.dst=some d→d<C.N)(k:pd C s.L σ w out v w'):
 ∃ σ',REL C (put s o out) σ' (a.put o.dst v) w':=by
 obtain⟨σ',h1,h2,h3⟩:=k;refine⟨σ',h1,λt=>?_,?_,?_,h.pres.trans h3⟩
 ·rw[fb]
  have hL:(AV.put s o out).L=app s.L out:=rfl;rw[hL]
  cases ho:o.dst with
  |none=>
   have:=h3.rv (h.env t)
   simpa [Act.put] using this
  |some d=>
   rw[z9 (by rw[h.size];exact hd d ho)];simp only[Λ]
   by_cases e:d=t
   ·simp only[e,if_true];exact h2
   ·simp only[e,if_false];exact h3.rv (h.env t)
 ·cases ho:o.dst<;>simp[Act.put,h.size]
 ·cases ho:o.dst<;>simp[Act.put,h.defers]
theorem REL.skip {C:Ctx}{s:St}{σ:Sig}{a:Act}{w:World}{o:Oper}(h:REL C s σ a w)(hd:∀ d,o.dst=some d→d<C.N):REL C (AV.put s o {av:=.void}) σ (a.put o.dst undef) w:=by
 have hL:(AV.put s o {av:=.void}).L=s.L:=by simp[AV.put,app,cD]
 refine⟨by rw[hL];exact h.inv,λt=>?_,?_,?_,by rw[hL];exact h.pres⟩
 ·rw[fb,hL]
  cases ho:o.dst with
  |none=>simpa [Act.put] using h.env t
  |some d=>
   rw[z9 (by rw[h.size];exact hd d ho)];simp only[Λ]
   by_cases e:d=t
   ·simp only[e,if_true];rfl
   ·simp only[e,if_false];exact h.env t
 ·cases ho:o.dst<;>simp[Act.put,h.size]
 ·cases ho:o.dst<;>simp[Act.put,h.defers]
theorem mA {s:St}{a:Act}{ops:List Oper}{o:Oper}{b:Bool}(hg:gval ops s.env o=some b)(hr:(∀ t x,lkp s.env t= .one (.bool x)→a.tmps.getD t undef= .bool x)∧∀ t,lkp s.env t= .void→a.tmps.getD t undef=undef):
 Region.wanted o (yielded ops.toArray a.tmps)=b:=by
 unfold gval at hg;unfold Region.wanted
 cases ho:o.guard with
 |none=>simp only[ho,Λ] at hg;subst hg;rfl
 |some g=>
  obtain⟨j,want⟩:=g;simp only[ho] at hg;split at hg
  ·rename_i d hd
   split at hg
   ·rename_i x hx
    simp only[Λ] at hg;subst hg;have h1:=hr.1 d x hx;have h2:a.tmps[d]? =some (.bool x):=by
     simp only[Array.getD_eq_getD_getElem?] at h1
     cases h3:a.tmps[d]? with
     |none=>rw[h3] at h1;cases h1
     |some u=>rw[h3] at h1;simp only[Option.getD_some] at h1;rw[h1]
    simp only[yielded];unfold pw at hd;simp only[List.getElem?_toArray,hd,Option.bind_some,h2]
    cases x<;>cases want<;>rfl
   ·rename_i hx
    simp only[Λ] at hg;subst hg;have h1:=hr.2 d hx;have h2:∀ x,a.tmps[d]? =some (.bool x)→False:=λx h3=>by
     simp only[Array.getD_eq_getD_getElem?,h3,Option.getD_some] at h1
     cases h1
    simp only[yielded];unfold pw at hd;simp only[List.getElem?_toArray,hd,Option.bind_some]
    cases h3:a.tmps[d]? with
    |none=>rfl
    |some u=>cases u<;>first|rfl|exact(h2 _ h3).elim
   ·cases hg
  ·cases hg
theorem REL.bools {C:Ctx}{s:St}{σ:Sig}{a:Act}{w:World}(h:REL C s σ a w):(∀ t x,lkp s.env t= .one (.bool x)→a.tmps.getD t undef= .bool x)∧∀ t,lkp s.env t= .void→a.tmps.getD t undef=undef:=by
 refine⟨λt x e=>?_,λt e=>?_⟩
 ·have:=h.env t
  rw[e] at this;exact this.2
 ·have:=h.env t
  rw[e] at this;exact this
def dB (N:Nat)(ops:List Oper):Bool:=ops.all λo=>match o.dst with|some d=>d<N|none=>true
theorem tw {N:Nat}{ops:List Oper}(h:dB N ops=true):∀ o,o∈ops→∀ d,o.dst=some d→d<N:=by
 intro o ho d hd;have:=List.all_eq_true.1 h o ho;rw[hd] at this
 simpa using this
theorem vG {C:Ctx}{ops:List Oper}{Q:Exit→Act→World→Prop}:∀ {l:List Oper} {s s':St} {outs:List Out} {σ:Sig} {a:Act} {w:World},LEX C ops l s outs s'→(∀ o,o∈l→∀ d,o.dst=some d→d<C.N)→
 REL C s σ a w→(∀ σ a w,REL C s' σ a w→Q .normal a w)→wpList C.P ops.toArray Q l a w
 |[],s,s',[],σ,a,w,h,_,hr,hq=>hq σ a w (by rw[(h:s'=s)];exact hr)
 |o::l,s,s',out::outs,σ,a,w,h,hd,hr,hq=>by
  obtain⟨h1,h2⟩:=h;have hd0:=hd o (List.mem_cons_self ..);have hd1:∀ o,o∈l→∀ d,o.dst=some d→d<C.N:=λo' ho'=>hd o' (List.mem_cons_of_mem _ ho');unfold wpList;rcases h1 with⟨hg,hgood⟩|⟨hg,rfl⟩
  ·rw[mA hg hr.bools]
   refine .inl (iC (hgood s.L σ w a.eval hr.inv (λx _=>hr.ev x) (λ_ _=>rfl) rfl) λv w' hdone=>?_);obtain⟨σ',hr'⟩:=hr.put hd0 hdone;exact vG h2 hd1 hr' hq
  ·rw[mA hg hr.bools]
   exact vG h2 hd1 (hr.skip hd0) hq
 |[],_,_,_::_,_,_,_,h,_,_,_=>h.elim
 |_::_,_,_,[],_,_,_,h,_,_,_=>h.elim
end Go.AV
