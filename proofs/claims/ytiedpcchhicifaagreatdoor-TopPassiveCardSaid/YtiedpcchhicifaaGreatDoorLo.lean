/- Part of the proof. -/
import Derived.Test.YtiedpcchhicifaaGreatDoorLn
set_option linter.unusedSimpArgs false
set_option linter.unusedVariables false
open List renaming getElem?_eq_some_iff→Δ
open Go.Result renaming andThen_ok→Ψ
open Option.some renaming injEq→Λ
open Nat renaming le_refl→Υ
namespace Go.AV
open Go Go.RowKit
def mO:Cap→Bool
 | .pat _ _=>true
 | .pfn _ _=>true
 | .ref _=>false
def fzC (L:List AO):AC→AC
 | .row k ver=>match L[k]? with
   |some (.row t _ v xs)=>if ver=v then .list t xs else .junk
   |_=>.junk
 | .ptr _ _ _ _=>.junk
 | .fn f caps=>if caps.all mO then .fn f caps else .junk
 | .mpv _=>.junk
 | .rwc _ _=>.junk
 | .suf _ _ _ _=>.junk
 |c=>c
def fz1 (L:List AO):AV→AV
 | .one c=>.one (fzC L c)
 | .agg cs=>.agg (cs.map (fzC L))
 |v=>v
def fzV (L:List AO):AV→AV
 | .tup vs=>.tup (vs.map (fz1 L))
 |v=>fz1 L v
def gu:AC→Bool
 | .row _ _=>false
 | .ptr _ _ _ _=>false
 | .fn _ caps=>caps.all mO
 | .mpv _=>false
 | .rwc _ _=>false
 | .suf _ _ _ _=>false
 |_=>true
def mP:AV→Bool
 | .one c=>gu c
 | .agg cs=>cs.all gu
 |_=>true
def iK:AV→Bool
 | .tup vs=>vs.all mP
 |v=>mP v
def Gh:AC→Bool
 | .int _ _=>true
 | .bool _=>true
 | .str _=>true
 | .nils=>true
 | .junk=>true
 | .emp=>true
 |_=>false
def FK:AV→Bool
 | .one c=>Gh c
 | .agg cs=>cs.all Gh
 |_=>true
def GA:AV→Bool
 | .tup vs=>vs.all FK
 |v=>FK v
theorem bv.weaken {α β:Type}{p q:α→β→Prop}:∀ {as:List α} {bs:List β},bv p as bs→(∀ a b,a∈as→p a b→q a b)→bv q as bs
 |[],[],_,_=>trivial
 |_::_,_::_,⟨h1,h2⟩,h=>⟨h _ _ (List.mem_cons_self ..) h1,h2.weaken λa b ha=>h a b (List.mem_cons_of_mem _ ha)⟩
 |[],_::_,hh,_=>hh.elim
 |_::_,[],hh,_=>hh.elim
theorem bv.mapL {α β γ:Type}{p:α→β→Prop}{q:γ→β→Prop}{f:α→γ}:∀ {as:List α} {bs:List β},bv p as bs→(∀ a b,p a b→q (f a) b)→bv q (as.map f) bs
 |[],[],_,_=>trivial
 |_::_,_::_,⟨h1,h2⟩,h=>⟨h _ _ h1,h2.mapL h⟩
 |[],_::_,hh,_=>hh.elim
 |_::_,[],hh,_=>hh.elim
section
variable {C C':Ctx} {L L':List AO} {σ σ':Sig} {w:World}
theorem p7 (ha:∀ b,b<w.heap.size→avd C' L' σ' b→avd C L σ b){f:FuncId}{ds:List ((t:Ty)×t.den)}{u:Value}(h:RFN C L σ w f ds u):RFN C' L' σ' w f ds u:=by
 obtain⟨b,o',vs,e,k1,k2,k3,k4⟩:=h;refine⟨b,o',vs,e,λhx=>k1 (ha b k2 hx),k2,k3,k4.mono λp u hp=>⟨hp.1,?_⟩⟩;obtain⟨b,o',cs,e,k1,k2,k3,k4⟩:=hp.2;exact⟨b,o',cs,e,λhx=>k1 (ha b k2 hx),k2,k3,k4.keep (Υ _) (λ_ _ _=>rfl) ha⟩
theorem fX (ha:∀ b,b<w.heap.size→avd C' L' σ' b→avd C L σ b){c:AC}{u:Value}(hp:gu c=true)(h:RC C L σ w c u):RC C' L' σ' w c u:=by
 obtain⟨h1,h2⟩:=h;refine⟨h1,?_⟩
 cases c with
 |row _ _=>cases hp
 |ptr _ _ _ _=>cases hp
 |mpv _=>cases hp
 |rwc _ _=>cases hp
 |suf _ _ _ _=>cases hp
 |fn f caps=>
  obtain⟨vs,e,hv⟩:=h2;refine⟨vs,e,hv.weaken λc u hc hcu=>?_⟩;have:=List.all_eq_true.1 hp c hc
  cases c with
  |ref _=>cases this
  |pat t d=>
   obtain⟨q0,b,o',cs,e,k1,k2,k3,k4⟩:=hcu;exact⟨q0,b,o',cs,e,λhx=>k1 (ha b k2 hx),k2,k3,k4.keep (Υ _) (λ_ _ _=>rfl) ha⟩
  |pfn f ds=>exact⟨hcu.1,p7 ha hcu.2⟩
 |list t xs=>exact Dat.keep (t:=.list t) (Υ _) (λ_ _ _=>rfl) ha h2
 |pat t d off=>
  obtain⟨b,o',cs,e,k1,k2,k3,k4⟩:=h2;exact⟨b,o',cs,e,λhx=>k1 (ha b k2 hx),k2,k3,k4.keep (Υ _) (λ_ _ _=>rfl) ha⟩
 |pfn f ds=>exact p7 ha h2
 |_=>exact h2
theorem rV (ha:∀ b,b<w.heap.size→avd C' L' σ' b→avd C L σ b){v:AV}{u:Value}(hp:mP v=true)(h:RV1 C L σ w v u):RV1 C' L' σ' w v u:=by
 cases v with
 |undef=>trivial
 |void=>exact h
 |tup _=>exact h.elim
 |one c=>exact fX ha hp h
 |agg cs=>
  obtain⟨vs,e,hall⟩:=h;exact⟨vs,e,hall.weaken λc u hc hcu=>fX ha (List.all_eq_true.1 hp c hc) hcu⟩
theorem nt (ha:∀ b,b<w.heap.size→avd C' L' σ' b→avd C L σ b){v:AV}{u:Value}(hp:iK v=true)(h:RV C L σ w v u):RV C' L' σ' w v u:=by
 cases v with
 |tup vs=>
  obtain⟨us,e,hall⟩:=h;exact⟨us,e,hall.weaken λc u hc hcu=>rV ha (List.all_eq_true.1 hp c hc) hcu⟩
 |undef=>trivial
 |void=>exact h
 |one c=>exact rV (v:=.one c) ha hp h
 |agg cs=>exact rV (v:=.agg cs) ha hp h
theorem Cj {c:AC}{u:Value}(hp:Gh c=true)(h:RC C L σ w c u){w':World}:RC C' L' σ' w' c u:=by
 obtain⟨h1,h2⟩:=h
 cases c<;>first|(cases hp;done)|exact⟨h1,h2⟩
theorem rK {v:AV}{u:Value}(hp:FK v=true)(h:RV1 C L σ w v u){w':World}:RV1 C' L' σ' w' v u:=by
 cases v with
 |undef=>trivial
 |void=>exact h
 |tup _=>exact h.elim
 |one c=>exact Cj hp h
 |agg cs=>
  obtain⟨vs,e,hall⟩:=h;exact⟨vs,e,hall.weaken λc u hc hcu=>Cj (List.all_eq_true.1 hp c hc) hcu⟩
theorem M6 {v:AV}{u:Value}(hp:GA v=true)(h:RV C L σ w v u){w':World}:RV C' L' σ' w' v u:=by
 cases v with
 |tup vs=>
  obtain⟨us,e,hall⟩:=h;exact⟨us,e,hall.weaken λc u hc hcu=>rK (List.all_eq_true.1 hp c hc) hcu⟩
 |undef=>trivial
 |void=>exact h
 |one c=>exact rK (v:=.one c) hp h
 |agg cs=>exact rK (v:=.agg cs) hp h
theorem OL (hI:INV C L σ w){c:AC}{u:Value}(h:RC C L σ w c u):RC C [] σ' w (fzC L c) u:=by
 have ha:∀ b,b<w.heap.size→avd C [] σ' b→avd C L σ b:=by
  rintro b _ (hx|⟨j,ob,e1,_⟩)
  ·exact .inl hx
  ·simp at e1
 obtain⟨h1,h2⟩:=h
 cases c with
 |row k ver=>
  simp only[fzC];obtain⟨ob,h3,h4,h5⟩:=h2;rw[h3]
  cases ob with
  |dead _=>exact⟨h1,trivial⟩
  |vars _ _=>exact⟨h1,trivial⟩
  |mp _ _ _=>exact⟨h1,trivial⟩
  |rowc _ _ _ _=>exact⟨h1,trivial⟩
  |itr _ _=>exact⟨h1,trivial⟩
  |fact _ _=>exact⟨h1,trivial⟩
  |row t e v xs=>
   simp only;split
   ·rename_i hv;subst hv
    obtain⟨_,h6⟩:=h5 rfl rfl;refine⟨h1,?_⟩;show Dat _ w (.list t) xs [u];rw[h6];obtain⟨flat,h8,h9,h10⟩:=hI.ob k _ h3;rcases h8.2 with⟨e1,e2⟩|⟨g,cap,cur,e1,_,e3,e4,e5,e6,e7⟩
    ·rw[e1]
     have:xs=[]:=List.eq_nil_of_length_eq_zero e2;subst this;exact fA t
    ·rw[e1]
     have hg:own L σ k g:=⟨_,h3,rfl,by rw[e1];rfl⟩
     refine⟨some ⟨g,0,none⟩,cap,rfl,e4,⟨e5,λh=>by cases h⟩,λ_=>⟨g,0,rfl,?_,(Array.getElem?_eq_some_iff.1 e3).1,λi hi=>⟨_,(h10 i hi).length,λj hj=>?_,(h10 i hi).keep (Υ _) (λ_ _ _=>rfl) ha⟩⟩⟩
     ·rintro(hx|⟨j,ob,q1,_⟩)
      ·exact(hI.off k g hg).2 hx
      ·simp at q1
     ·have hm:(i+1)*t.size≤xs.length*t.size:=Nat.mul_le_mul_right _ hi
      rw[Nat.add_mul,Nat.one_mul] at hm;rw[ee e3,List.getElem?_take_of_lt hj,List.getElem?_drop,← e7,List.getElem?_take_of_lt ω];simp
   ·exact⟨h1,trivial⟩
 |ptr _ _ _ _=>exact⟨h1,trivial⟩
 |mpv _=>exact⟨h1,trivial⟩
 |rwc _ _=>exact⟨h1,trivial⟩
 |suf _ _ _ _=>exact⟨h1,trivial⟩
 |fn f caps=>
  simp only[fzC];split
  ·rename_i hp
   exact fX (c:=.fn f caps) ha hp ⟨h1,h2⟩
  ·exact⟨h1,trivial⟩
 |emp=>exact⟨h1,h2⟩
 |exact _=>exact⟨h1,h2⟩
 |junk=>exact⟨h1,trivial⟩
 |int _ _=>exact⟨h1,h2⟩
 |bool _=>exact⟨h1,h2⟩
 |str _=>exact⟨h1,h2⟩
 |nils=>exact⟨h1,h2⟩
 |nilp=>exact⟨h1,h2⟩
 |list t xs=>exact fX (c:=.list t xs) ha rfl ⟨h1,h2⟩
 |pat t d off=>exact fX (c:=.pat t d off) ha rfl ⟨h1,h2⟩
 |pfn f ds=>exact fX (c:=.pfn f ds) ha rfl ⟨h1,h2⟩
theorem Ba (hI:INV C L σ w){v:AV}{u:Value}(h:RV1 C L σ w v u):RV1 C [] σ' w (fz1 L v) u:=by
 cases v with
 |undef=>trivial
 |void=>exact h
 |tup _=>exact h.elim
 |one c=>exact OL hI h
 |agg cs=>obtain⟨vs,e,hall⟩:=h;exact⟨vs,e,hall.mapL λc u hc=>OL hI hc⟩
theorem G4 (hI:INV C L σ w){v:AV}{u:Value}(h:RV C L σ w v u):RV C [] σ' w (fzV L v) u:=by
 cases v with
 |tup vs=>obtain⟨us,e,hall⟩:=h;exact⟨us,e,hall.mapL λc u hc=>Ba hI hc⟩
 |undef=>trivial
 |void=>exact h
 |one c=>exact Ba (v:=.one c) hI h
 |agg cs=>exact Ba (v:=.agg cs) hI h
theorem yp (c:AC):gu (fzC L c)=true:=by
 cases c with
 |row k v=>
  simp only[fzC];split
  ·split<;>rfl
  ·rfl
 |fn f caps=>
  simp only[fzC];split
  ·rename_i h;exact h
  ·rfl
 |_=>rfl
theorem rm (v:AV):mP (fz1 L v)=true:=by
 cases v with
 |one c=>exact yp c
 |agg cs=>simp only[fz1,mP,List.all_map];exact List.all_eq_true.2 λc _=>yp c
 |_=>rfl
theorem yy (v:AV):iK (fzV L v)=true:=by
 cases v with
 |tup vs=>simp only[fzV,iK,List.all_map];exact List.all_eq_true.2 λc _=>rm c
 |undef=>rfl
 |void=>rfl
 |one c=>exact rm (.one c)
 |agg cs=>exact rm (.agg cs)
end
def ky (P:Program)(s:St):List ResultVar→Option (List AV)
 |[]=>some []
 | .tmp t::r=>match lkp s.env t,ky P s r with
   | .tup _,_=>none
   |v,some vs=>some (v::vs)
   |_,none=>none
 | .cell a T::r=>match aN P T,lkp s.env a,ky P s r with
   |some td,.one (.ptr k 0 0 0),some vs=>match cK s.L k 0 0 with
    |some cs=>match bZ td cs 0 with
     |some v=>some (v::vs)
     |none=>none
    |none=>none
   |_,_,_=>none
def w5 (P:Program)(s:St)(rs:List ResultVar):Option AV:=
 match ky P s rs with
 |some [v]=>some v
 |some vs=>some (.tup vs)
 |none=>none
theorem wZ {td:TD}{cs:List AC}{off:Nat}{v:AV}(h:bZ td cs off=some v):∀ vs,v≠.tup vs:=by
 intro vs e;subst e;unfold bZ at h;split at h
 ·split at h<;>simp at h
 ·split at h<;>simp at h
def uR (tmps:Array Value):ResultVar→Sem Value
 | .tmp t=>pure (tmps.getD t undef)
 | .cell b t=>do loadVar t (← asAddr (tmps.getD b undef))
theorem CT (fn:Func)(tmps:Array Value):results fn tmps=(do let vs ← fn.results.mapM (uR tmps);pure (if h:vs.size=1 then vs[0] else .tuple vs)):=by
 unfold results
 congr 1
theorem pE {C:Ctx}{s:St}{σ:Sig}{a:Act}{w:World}(hr:REL C s σ a w):∀ {rs:List ResultVar} {vs:List AV},ky C.P s rs=some vs→
 ∃ us:List Value,(rs.mapM (uR a.tmps)).run C.P w= .ok us w∧bv (RV1 C s.L σ w) vs us
 |[],vs,h=>by
  simp only[ky,Λ] at h;subst h;exact⟨[],rfl,trivial⟩
 | .tmp t::r,vs,h=>by
   simp only[ky] at h;split at h
   ·cases h
   ·rename_i vs' h1 hv
    simp only[Λ] at h;subst h;obtain⟨us,h2,h3⟩:=pE hr h1;refine⟨a.tmps.getD t undef::us,?_,?_,h3⟩
    ·simp only[List.mapM_cons,Sem.run_bind,uR,Sem.run_pure,Ψ,h2]
    ·have:=hr.env t
     cases hl:lkp s.env t with
     |tup x=>exact absurd hl (hv x)
     |undef=>trivial
     |void=>rw[hl] at this;exact this
     |one c=>rw[hl] at this;exact this
     |agg cs=>rw[hl] at this;exact this
   ·cases h
 | .cell b T::r,vs,h=>by
   simp only[ky] at h;split at h
   ·rename_i td k vs' ht hl h1
    split at h
    ·rename_i cs hcs
     split at h
     ·rename_i v hv
      simp only[Λ] at h;subst h;obtain⟨us,h2,h3⟩:=pE hr h1;have h4:=hr.env b;rw[hl] at h4;obtain⟨g,base,vs0,e,_,ha,hc⟩:=eD hr.inv hcs h4.2;obtain⟨u,hu,hrv⟩:=kP ht ha hc hv;refine⟨u::us,?_,?_,h3⟩
      ·have hu':(loadVar T ⟨g,base+0,none⟩).run C.P w= .ok u w:=by
        simpa [Instr.loadAt,Instr.sureAddr] using hu
       simp only[List.mapM_cons,Sem.run_bind,uR,e,asAddr,Sem.run_pure,Ψ,hu',h2]
      ·have hnt:=wZ hv
       cases v with
       |tup x=>exact absurd rfl (hnt x)
       |undef=>trivial
       |void=>exact hrv
       |one c=>exact hrv
       |agg cs=>exact hrv
     ·cases h
    ·cases h
   ·cases h
theorem oh {C:Ctx}{s:St}{σ:Sig}{a:Act}{w:World}{fn:Func}{v:AV}(hr:REL C s σ a w)(h:w5 C.P s fn.results.toList=some v):
 ∃ u,(results fn a.tmps).run C.P w= .ok u w∧RV C s.L σ w v u:=by
 unfold w5 at h
 cases hres:ky C.P s fn.results.toList with
 |none=>rw[hres] at h;cases h
 |some vs=>
  rw[hres] at h;obtain⟨us,h1,h2⟩:=pE hr hres;have hrun:∀ u,(if h:us.toArray.size=1 then us.toArray[0] else Value.tuple us.toArray)=u→(results fn a.tmps).run C.P w= .ok u w:=by
   intro u hu;rw[CT];simp only[Array.mapM_eq_mapM_toList,Sem.run_bind,Sem.run_map];rw[h1];simp only[Ψ,Sem.run_pure];rw[hu]
  cases vs with
  |nil=>
   simp only[Λ] at h;subst h;have:=h2.none;subst this;exact⟨.tuple #[],hrun _ rfl,[],rfl,trivial⟩
  |cons x vs=>
   cases vs with
   |nil=>
    simp only[Λ] at h;subst h;obtain⟨u,rfl,hu⟩:=h2.one;refine⟨u,hrun u rfl,?_⟩
    cases x with
    |tup y=>exact hu.elim
    |_=>exact hu
   |cons y vs=>
    simp only[Λ] at h;subst h;refine⟨.tuple us.toArray,hrun _ ?_,us,rfl,h2⟩;have hl:=h2.length;simp only[List.length_cons] at hl;rw[dif_neg (by simp;omega)]
def cm:Nat→List AV→Env
 |_,[]=>[]
 |i,a::r=>(i,a)::cm (i+1) r
theorem kT:∀ (i:Nat) (args:List AV) (t:Nat),lkp (cm i args) t=if i≤t then(args[t-i]?).getD .undef else .undef
 |i,[],t=>by simp[cm,lkp]
 |i,a::r,t=>by
  simp only[cm,lkp];rw[kT (i+1) r t]
  by_cases e:t=i
  ·subst e;simp
  ·rw[if_neg e]
   by_cases h:i≤t
   ·rw[if_pos ω,if_pos h,show t-i=(t-(i+1))+1 by omega]
    simp
   ·rw[if_neg ω,if_neg h]
def Ctx.start (P:Program)(av:Nat→Prop)(w:World)(N:Nat):Ctx:={P:=P,X:=av,keep:=λb=>b<w.heap.size,w0:=w,N:=N,bL:=[],bσ:=λ_=>undef,bw:=w}
theorem wj {P:Program}{av:Nat→Prop}{w:World}{N:Nat}{σ:Sig}(h:∀ b,av b→b<w.heap.size):INV (Ctx.start P av w N) [] σ w:=
 ⟨λo ob e=>by simp at e,λo o' b ⟨ob,e,_⟩=>by simp at e,λo b ⟨ob,e,_⟩=>by simp at e,λb hb=>⟨hb,rfl⟩,h,Υ _,rfl,rfl,rfl⟩
theorem Li {P:Program}{av:Nat→Prop}{w:World}{N:Nat}{σ σ':Sig}:eB (Ctx.start P av w N) [] σ w [] σ' w:=by
 intro c u h;have ha:∀ b,b<w.heap.size→avd (Ctx.start P av w N) [] σ' b→avd (Ctx.start P av w N) [] σ b:=by
  rintro b _ (hx|⟨o,ob,e,_⟩)
  ·exact .inl hx
  ·simp at e
 by_cases hp:gu c=true
 ·exact fX ha hp h
 ·cases c with
  |row k v=>obtain⟨_,ob,e,_⟩:=h;simp at e
  |ptr k v i off=>obtain⟨_,ob,e,_⟩:=h;simp at e
  |mpv k=>obtain⟨_,ob,e,_⟩:=h;simp at e
  |rwc k v=>obtain⟨_,ob,e,_⟩:=h;simp at e
  |suf k v p cp=>obtain⟨_,ob,e,_⟩:=h;simp at e
  |fn f caps=>
   obtain⟨h0,vs,e,hv⟩:=h;exfalso;apply hp;refine List.all_eq_true.2 λc hc=>?_;obtain⟨i,hi⟩:=List.getElem?_of_mem hc;obtain⟨u,_,hu⟩:=hv.at_ hi
   cases c with
   |ref k=>obtain⟨_,ob,e,_⟩:=hu;simp at e
   |pfn f ds=>rfl
   |pat t d=>rfl
  |_=>exact absurd rfl hp
def qZ (P:Program)(fn:Func)(R:St→AV→Prop):Exit→St→Prop:=λe s'=>(e= .normal∨e= .ret)∧∃ v,w5 P s' fn.results.toList=some v∧R s' v
theorem lg {P:Program}{f:FuncId}{fn:Func}{c:Code}{args:List AV}{R:St→AV→Prop}(hf:P.funcs[f]? =some fn)(hb:fn.body=some c)(hn:args.length≤fn.ntmps)(hp:args.all iK=true)
 (h:∀ C,C.P=P→C.N=fn.ntmps→C.bL=[]→AWP C c (qZ P fn R) {env:=cm 0 args,L:=[]})
 {C:Ctx} {L:List AO} {σ:Sig} {w:World} {vs:List Value} (hI:INV C L σ w) (ha:bv (RV C L σ w) args vs):
 Calls P f vs.toArray w λe w'=>∃ s' σ' v u,e= .returned u∧R s' v∧INV (Ctx.start P (avd C L σ) w fn.ntmps) s'.L σ' w'∧RV (Ctx.start P (avd C L σ) w fn.ntmps) s'.L σ' w' v u:=by
 have hlt:∀ b,avd C L σ b→b<w.heap.size:=by
  rintro b (hx|⟨o,ho⟩)
  ·exact Nat.lt_of_lt_of_le (hI.xlt b hx) hI.size
  ·exact jJ hI ho
 have hl:=ha.length;refine calls_of_wp hf hb (wp_mono (h (Ctx.start P (avd C L σ) w fn.ntmps) rfl rfl rfl σ _ w ⟨wj hlt,λt=>?_,by simp[Ctx.start];omega,rfl,Li⟩) λe a' w' ⟨s',σ',h1,h2⟩=>?_)
 ·rw[kT,if_pos (Nat.zero_le _),Nat.sub_zero]
  cases ht:args[t]? with
  |none=>trivial
  |some a=>
   obtain⟨u,hu,hru⟩:=ha.at_ ht;have:(vs.toArray++Array.replicate (fn.ntmps-vs.toArray.size) undef).getD t undef=u:=by
    have htl:t<vs.length:=(Δ.1 hu).1;simp only[Array.getD_eq_getD_getElem?];rw[Array.getElem?_append_left (by simpa using htl)];simp[hu]
   rw[this];exact nt (λb _ hb=>by
    rcases hb with hx|⟨o,ob,e,_⟩
    ·exact hx
    ·simp at e) (List.all_eq_true.1 hp a (List.mem_of_getElem? ht)) hru
 ·obtain⟨he,v,hv,hR⟩:=h1
  obtain⟨u,hu,hru⟩:=oh h2 hv;have hfin:a'.defers=[]∧∃ v,(results fn a'.tmps).run P w'= .ok v w'∧∃ s' σ' v' u,Ending.returned v= .returned u∧R s' v'∧INV (Ctx.start P (avd C L σ) w fn.ntmps) s'.L σ' w'∧RV (Ctx.start P (avd C L σ) w fn.ntmps) s'.L σ' w' v' u:=
   ⟨h2.defers,u,hu,s',σ',v,u,rfl,hR,h2.inv,hru⟩
  rcases he with rfl|rfl
  ·exact hfin
  ·exact hfin
theorem kL {P:Program}{av:Nat→Prop}{w w':World}{N:Nat}{L:List AO}{σ:Sig}(h:INV (Ctx.start P av w N) L σ w'):MORE w w':=
 ⟨h.size,h.os,h.tape,h.output,λb hb=>(h.kept b hb).2⟩
theorem BS {P:Program}{f:FuncId}{fn:Func}{c:Code}{args:List AV}{r:AV}(hf:P.funcs[f]? =some fn)(hb:fn.body=some c)(hname:(fn.name == "runtime.NumGoroutine")=false)(hn:args.length≤fn.ntmps)(hp:args.all iK=true)
 (h:∀ C,C.P=P→C.N=fn.ntmps→C.bL=[]→AWP C c (qZ P fn λs' v=>fzV s'.L v=r) {env:=cm 0 args,L:=[]}):aY P f args r:=by
 refine⟨⟨fn,hf,hname,by rw[hb];rfl⟩,λC L σ w vs hP hI ha=>?_⟩;refine(lg hf hb hn hp h hI ha).mono λe w' hh=>?_;obtain⟨s',σ',v,u,rfl,hR,h1,h2⟩:=hh;refine⟨u,rfl,kL h1,?_⟩;have h3:=G4 (σ':=σ') h1 h2;rw[hR] at h3;refine nt (λb _ hb=>.inl hb) ?_ h3;rw[← hR];exact yy v
def fpV:AV→List Nat
 | .one c=>fa c
 | .agg cs=>cs.flatMap fa
 |_=>[]
theorem zH {L L':List AO}{c:AC}(h:∀ k,k∈fa c→L[k]? =L'[k]?):fzC L c=fzC L' c:=by
 cases c with
 |row k v=>simp only[fzC];rw[h k (by simp[fa])]
 |_=>rfl
theorem LA {L L':List AO}{v:AV}(h:∀ k,k∈fpV v→L[k]? =L'[k]?)(hnt:∀ vs,v≠.tup vs):fzV L v=fzV L' v:=by
 cases v with
 |tup vs=>exact absurd rfl (hnt vs)
 |undef=>rfl
 |void=>rfl
 |one c=>simp only[fzV,fz1];rw[zH h]
 |agg cs=>
  simp only[fzV,fz1]
  congr 1
  exact List.map_congr_left λc hc=>zH λk hk=>h k (List.mem_flatMap.2 ⟨c,hc,hk⟩)
def Mg:AV→Bool
 | .tup _=>false
 |_=>true
theorem Gk {P:Program}{L0:List AO}{f:FuncId}{args:List AV}{r:AV}(hnt:args.all Mg=true)(h:aY P f (args.map (fzV L0)) r)(hs:GA r=true):cS P L0 f args {av:=r,fp:=args.flatMap fpV}:=by
 refine⟨h.1,λC L σ w vs hP hi ha hfp _=>?_⟩;have hI2:INV C [] σ w:=⟨λo ob e=>by simp at e,λo o' b ⟨ob,e,_⟩=>by simp at e,λo b ⟨ob,e,_⟩=>by simp at e,hi.kept,hi.xlt,hi.size,hi.os,hi.tape,hi.output⟩
 have ha2:bv (RV C [] σ w) (args.map (fzV L0)) vs:=by
  have:∀ (as:List AV) (us:List Value),(∀ a,a∈as→a∈args)→bv (RV C L σ w) as us→bv (RV C [] σ w) (as.map (fzV L0)) us:=by
   intro as
   induction as with
   |nil=>intro us _ hh;cases us with|nil=>trivial|cons _ _=>exact hh.elim
   |cons a as ih=>
    intro us hm hh
    cases us with
    |nil=>exact hh.elim
    |cons u us=>
     refine⟨?_,ih us (λb hb=>hm b (List.mem_cons_of_mem _ hb)) hh.2⟩;have hma:=hm a (List.mem_cons_self ..);rw[← LA (L:=L) (L':=L0) (λk hk=>hfp k (List.mem_flatMap.2 ⟨a,hma,hk⟩)) (λws e=>by
      have:=List.all_eq_true.1 hnt a hma;rw[e] at this;cases this)]
     exact G4 hi hh.1
  exact this args vs (λ_ h=>h) ha
 refine(h.2 C [] σ w vs hP hI2 ha2).mono λe w' hh=>?_;obtain⟨v,e1,hm,hr⟩:=hh;exact⟨v,e1,mg hi hm.size hm.os hm.tape hm.output hm.block λ_ _=>M6 hs hr⟩
def gQ (P:Program)(f:FuncId)(args:List AV)(t:Ty)(e:TypeId)(xs:List t.den):Prop:=
 j5 P f∧∀ C L σ w vs,C.P=P→INV C L σ w→bv (RV C L σ w) args vs→
  Calls P f vs.toArray w λen w'=>∃ v flat,en= .returned v∧MORE w w'∧w'.ownsRow w.heap.size e t.size v xs.length flat∧0<t.size∧
   ∀ i,i<xs.length→Dat (λb=>avd C L σ b∨blk v=some b) w' t (xs.getD i t.dflt) ((flat.drop (i*t.size)).take t.size)
theorem dW {P:Program}{f:FuncId}{fn:Func}{c:Code}{args:List AV}{t:Ty}{e:TypeId}{xs:List t.den}(hf:P.funcs[f]? =some fn)(hb:fn.body=some c)(hname:(fn.name == "runtime.NumGoroutine")=false)(hn:args.length≤fn.ntmps)(hp:args.all iK=true)
 (h:∀ C,C.P=P→C.N=fn.ntmps→C.bL=[]→AWP C c (qZ P fn λs' v=>∃ k ver,v= .one (.row k ver)∧s'.L[k]? =some (.row t e ver xs)) {env:=cm 0 args,L:=[]}):gQ P f args t e xs:=by
 refine⟨⟨fn,hf,hname,by rw[hb];rfl⟩,λC L σ w vs hP hI ha=>?_⟩;refine(lg hf hb hn hp h hI ha).mono λen w' hh=>?_;obtain⟨s',σ',v,u,rfl,⟨k,ver,rfl,hk⟩,h1,h2⟩:=hh;obtain⟨_,ob,h3,h4,h5⟩:=h2;rw[hk] at h3;cases h3;obtain⟨_,h6⟩:=h5 rfl rfl;obtain⟨flat,h8,h9,h10⟩:=h1.ob k _ hk;refine⟨u,flat,rfl,kL h1,?_,h9,λi hi=>(h10 i hi).keep (Υ _) (λ_ _ _=>rfl) ?_⟩
 ·rw[h6]
  refine⟨h8.1,?_⟩;rcases h8.2 with h|⟨g,cap,cur,e1,_,e3,r⟩
  ·exact .inl h
  ·refine .inr ⟨g,cap,cur,e1,?_,e3,r⟩
   have:=(h1.off k g ⟨_,hk,rfl,by rw[e1];rfl⟩).1;exact Nat.le_of_not_lt this
 ·rintro b _ (hb|hb)
  ·exact .inl hb
  ·rw[h6] at hb
   exact .inr ⟨k,_,hk,rfl,hb⟩
theorem gy {P:Program}{L0:List AO}{f:FuncId}{args:List AV}{t:Ty}{e:TypeId}{xs:List t.den}(h:gQ P f args t e xs):cS P L0 f args {av:=.one (.row L0.length 0),new:=[.row t e 0 xs]}:=by
 refine⟨h.1,λC L σ w vs hP hi ha _ hlen=>(h.2 C L σ w vs hP hi ha).mono λen w' hh=>?_⟩;obtain⟨v,flat,e1,hm,ho,h0,hd⟩:=hh;have hblk:blk v=v.ownBlock:=gE (dX ho);refine⟨v,e1,?_⟩;rw[← hlen];have hbase:∀ b,blk v=some b→w.heap.size≤b:=λb hb=>(ho.lt b (by rw[← hblk];exact hb)).1;refine eE (g:=v) hi hm.size hm.os hm.tape hm.output hm.block hbase (λ_=>?_) ?_
 ·refine⟨flat,?_,h0,λi hi'=>(hd i hi').keep (Υ _) (λ_ _ _=>rfl) ?_⟩
  ·rw[aR]
   refine⟨ho.1,?_⟩;rcases ho.2 with h|⟨g,cap,cur,e1,_,r⟩
   ·exact .inl h
   ·exact .inr ⟨g,cap,cur,e1,Nat.zero_le _,r⟩
  ·rintro b _ (hx|⟨j,ob,q1,q2,q3⟩)
   ·exact .inl (.inl hx)
   ·by_cases ej:j=L.length
    ·subst ej;rw[aR] at q3;exact .inr q3
    ·rw[d6 σ v ej] at q3
     have hjl:j<L.length:=by
      have:=(Δ.1 q1).1;simp at this;omega
     rw[List.getElem?_append_left hjl] at q1;exact .inl (.inr ⟨j,ob,q1,q2,q3⟩)
 ·refine⟨?_,.row t e 0 xs,η,Υ _,λ_ _=>⟨⟨_,_,_,rfl⟩,by rw[aR]⟩⟩
  rcases ho.2 with⟨rfl,_⟩|⟨g,cap,cur,rfl,_⟩<;>rfl
theorem oe {C:Ctx}{L:List AO}{σ:Sig}{w:World}{t:Ty}{xs:List t.den}{u:Value}(h:RV C L σ w (.one (.list t xs)) u):
 (xs=[]∧RV C L σ w (.one .nils) u)∨(xs=[]∧RV C L σ w (.one .emp) u)∨0<xs.length:=by
 rcases Nat.eq_zero_or_pos xs.length with h0|h0
 ·have hx:xs=[]:=List.eq_nil_of_length_eq_zero h0
  obtain⟨h1,A,c,e,hc,hm,_⟩:=h;simp only[List.cons.injEq,and_true] at e;subst e;subst hx
  cases A with
  |none=>exact .inl ⟨rfl,rfl,by rw[hm.2 rfl];rfl⟩
  |some a=>exact .inr (.inl ⟨rfl,rfl,a,c,rfl,hm.1⟩)
 ·exact .inr (.inr h0)
end Go.AV
