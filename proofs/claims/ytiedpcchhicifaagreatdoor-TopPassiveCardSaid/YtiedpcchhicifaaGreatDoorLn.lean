/- Part of the proof. -/
import Derived.Test.YtiedpcchhicifaaGreatDoorLm
set_option linter.unusedSimpArgs false
set_option linter.unusedVariables false
open Nat renaming le_refl→Υ
namespace Go.AV
open Go Go.RowKit
def AWP (C:Ctx)(c:Code)(Q:Exit→St→Prop)(s:St):Prop:=
 ∀ σ a w,REL C s σ a w→c.wp C.P (λe a' w'=>∃ s' σ',Q e s'∧REL C s' σ' a' w') a w
section
variable {C:Ctx} {Q:Exit→St→Prop} {s:St}
theorem iB {c:Code}{Q':Exit→St→Prop}(h:AWP C c Q s)(hq:∀ e s,Q e s→Q' e s):AWP C c Q' s:=
 λσ a w hr=>wp_mono (h σ a w hr) λ_ _ _ ⟨s',σ',h1,h2⟩=>⟨s',σ',hq _ _ h1,h2⟩
theorem PY {c:Code}{s0:St}(h:AWP C c Q s0)(hs:SUB s0 s):AWP C c Q s:=λσ a w hr=>h σ a w (hr.sub hs)
theorem au (h:Q .normal s):AWP C .skip Q s:=λσ _ _ hr=>wp_skip ⟨s,σ,h,hr⟩
theorem aA (h:Q .ret s):AWP C .ret Q s:=λσ _ _ hr=>wp_ret ⟨s,σ,h,hr⟩
theorem aL {id:Nat}(h:Q (.exit id) s):AWP C (.exit id) Q s:=λσ _ _ hr=>wp_exit ⟨s,σ,h,hr⟩
def gl (K:St→Prop)(Q:Exit→St→Prop):Exit→St→Prop
 | .normal,s=>K s
 |e,s=>Q e s
theorem xw {x y:Code}(h:AWP C x (gl (AWP C y Q) Q) s):AWP C (.seq x y) Q s:=by
 intro σ a w hr;refine wp_seq (wp_mono (h σ a w hr) λe a' w' ⟨s',σ',h1,h2⟩=>?_)
 cases e with
 |normal=>exact h1 σ' a' w' h2
 |_=>exact⟨s',σ',h1,h2⟩
theorem aa {x y:Code}(h:∀ K:St→Prop,(∀ s,AWP C y Q s→K s)→AWP C x (gl K Q) s):AWP C (.seq x y) Q s:=xw (h _ λ_ h=>h)
def BB (id:Nat)(Q:Exit→St→Prop):Exit→St→Prop
 | .exit id',s=>if id'=id then Q .normal s else Q (.exit id') s
 |e,s=>Q e s
theorem ay {id:Nat}{c:Code}(h:AWP C c (BB id Q) s):AWP C (.block id c) Q s:=by
 intro σ a w hr;refine wp_block (wp_mono (h σ a w hr) λe a' w' ⟨s',σ',h1,h2⟩=>?_)
 cases e with
 |exit id'=>
  simp only[BB] at h1;simp only[Exit.inBlock];split
  ·rename_i e;rw[if_pos e] at h1;exact⟨s',σ',h1,h2⟩
  ·rename_i e;rw[if_neg e] at h1;exact⟨s',σ',h1,h2⟩
 |_=>exact⟨s',σ',h1,h2⟩
theorem ox {c:Operand}{x y:Code}{b:Bool}(hc:ev s.env c= .one (.bool b))(ht:b=true→AWP C x Q s)(hf:b=false→AWP C y Q s):AWP C (.cond c x y) Q s:=by
 intro σ a w hr;have h1:=hr.ev c;rw[hc] at h1;refine wp_cond (t:=b) h1.2 ?_
 cases b
 ·exact hf rfl σ a w hr
 ·exact ht rfl σ a w hr
theorem ui {id:Nat}{l:List Oper}(hd:dB C.N l=true)(h:RG C.P l l s [] λs' _=>Q .normal s'):AWP C (.region id l.toArray false) Q s:=by
 intro σ a w hr;obtain⟨outs,s1,s2,tr,h1,h2,_,h3⟩:=h C rfl;exact wp_region_lit (vG h1 (tw hd) hr λσ' a' w' hr'=>⟨s2,σ',h3,hr'.sub h2⟩)
theorem zl {id:Nat}{l:List Oper}(hm:C.P.follows .mixedOrders=true)(hd:dB C.N l=true)(h:RG C.P l l s [] λs' tr=>mK l tr=true∧Q .normal s'):AWP C (.region id l.toArray true) Q s:=by
 intro σ a w hr;obtain⟨outs,s1,s2,tr,h1,h2,hle,h3',h4⟩:=h C rfl;simp only[List.nil_append] at hle;have h3:=Lr hle h3';refine wp_region_any hm ?_;have hr':REL C s σ a {w with drawn:=w.drawn+1}:=by
  obtain⟨t1,t2⟩:=xx (C:=C) (L:=s.L) (σ:=σ) (w:=w) (w':={w with drawn:=w.drawn+1}) hr.inv (Υ _) rfl rfl rfl (λ_ _=>rfl);exact⟨t1,λt=>t2.rv (hr.env t),hr.size,hr.defers,hr.pres.trans t2⟩
 have hfold:∀ (l':List (Oper×Out)) (i:Nat) (s:St),fold (λi=>(Array.replicate l.toArray.size false).getD i false) i l' s=s:=by
  intro l'
  induction l' with
  |nil=>intros;rfl
  |cons x l' ih=>
   intro i s;simp only[fold];have:(Array.replicate l.toArray.size false).getD i false=false:=by
    simp only[Array.getD_eq_getD_getElem?,Array.getElem?_replicate];split<;>rfl
   rw[if_neg (by rw[this];simp)];exact ih (i+1) s
 refine Mh h1 h3 (tw hd) (λσ' a' w' hr'=>⟨s2,σ',h4,hr'.sub h2⟩) _ _ σ a _ η ?_ ?_ (by rw[hfold];exact hr')
 ·simp
 ·intro j o e hj
  simp[Array.getElem?_replicate] at hj
theorem Br {p:Nat→Prop}(h:∃ n,p n):∃ n,p n∧∀ m,m<n→¬p m:=by
 obtain⟨n,hn⟩:=h
 induction n using Nat.strongRecOn with
 |_ n ih=>
  by_cases h:∃ m,m<n∧p m
  ·obtain⟨m,hm,hp⟩:=h
   exact ih m hm hp
  ·exact⟨n,hn,λm hm hp=>h ⟨m,hm,hp⟩⟩
theorem aM {c:Code}(I:Nat→St→Prop)(h0:∃ n s0,SUB s0 s∧I n s0)
 (h:∀ n s,I n s→AWP C c (gl (λs'=>∃ m s0,m<n∧SUB s0 s'∧I m s0) Q) s):AWP C (.loop c) Q s:=by
 intro σ a w hr;obtain⟨n0,s0,hs0,hI0⟩:=h0
 let p:Act→World→Nat→Prop:=λa w n=>∃ s σ,I n s∧REL C s σ a w
 let μ:Act→World→Nat:=λa w=>Classical.epsilon λn=>p a w n∧∀ m,m<n→¬p a w m
 have hμ:∀ a w,(∃ n,p a w n)→p a w (μ a w)∧∀ m,m<μ a w→¬p a w m:=λa w hp=>Classical.epsilon_spec (Br hp);refine wp_loop (λa w=>∃ n,p a w n) μ ⟨n0,s0,σ,hI0,hr.sub hs0⟩ λa w hp=>?_;obtain⟨⟨s1,σ1,h1,h2⟩,_⟩:=hμ a w hp;refine wp_mono (h _ s1 h1 σ1 a w h2) λe a' w' ⟨s',σ',h3,h4⟩=>?_
 cases e with
 |normal=>
  obtain⟨m,s2,hm,hs2,hI⟩:=h3;have hp':p a' w' m:=⟨s2,σ',hI,h4.sub hs2⟩
  refine⟨⟨m,hp'⟩,?_⟩;obtain⟨_,h5⟩:=hμ a' w' ⟨m,hp'⟩;rcases Nat.lt_or_ge m (μ a' w') with h6|h6
  ·exact absurd hp' (h5 m h6)
  ·omega
 |_=>exact⟨s',σ',h3,h4⟩
theorem cA {c:Code}(k:Nat){t:Ty}{e:TypeId}{ver:Nat}{xs:List t.den}(hk:s.L[k]? =some (.row t e ver xs))
 (h:AWP C c Q {env:=s.env.map λx=>(x.1,match x.2 with| .one (.row k' v)=>if k'=k∧v=ver then .one (.list t xs) else .one (.row k' v)|v=>v),L:=s.L.set k (.dead ver)}):AWP C c Q s:=by
 intro σ a w hr;have hlt:k<s.L.length:=(List.getElem?_eq_some_iff.1 hk).1;have hI:=d8 (C:=C) (L':=s.L.set k (.dead ver)) (σ':=σ) (w':=w) k hr.inv (Υ _) rfl rfl rfl (λ_ _ _=>rfl) (λj hj=>by rw[List.getElem?_set_ne (Ne.symm hj)]) (λ_ _=>rfl)
  (λob e=>by rw[hk] at e;cases e;exact⟨.dead ver,by simp[hlt],Υ _,λh=>by cases h⟩)
  (λb ⟨ob,e1,e2,_⟩=>by simp[hlt] at e1;subst e1;cases e2)
  (λ_ _ ob e=>by simp[hlt] at e;subst e;trivial)
 refine h σ a w ⟨hI.1,λt'=>?_,hr.size,hr.defers,hr.pres.trans hI.2⟩;have hlook:∀ env:Env,lkp (env.map λx=>(x.1,match x.2 with| .one (.row k' v)=>if k'=k∧v=ver then AV.one (.list t xs) else .one (.row k' v)|v=>v)) t'=
  match lkp env t' with| .one (.row k' v)=>if k'=k∧v=ver then AV.one (.list t xs) else .one (.row k' v)|v=>v:=by
  intro env
  induction env with
  |nil=>rfl
  |cons x env ih=>
   obtain⟨n,v⟩:=x;simp only[List.map_cons,lkp]
   by_cases e:t'=n
   ·simp only[e,if_true]
   ·simp only[e,if_false];exact ih
 show RV C _ σ w (lkp _ t') _;rw[hlook];have h1:=hr.env t';have h2:=hI.2.rv h1;split
 ·rename_i k' v hv
  split
  ·rename_i hkv
   obtain⟨rfl,rfl⟩:=hkv;rw[hv] at h1;obtain⟨h3,ob,h4,h5,h6⟩:=h1;rw[hk] at h4;cases h4;obtain⟨_,h7⟩:=h6 rfl rfl;refine⟨h3,?_⟩;obtain⟨flat,h8,h9,h10⟩:=hr.inv.ob k' _ hk;show Dat _ w (.list t) xs [_];rw[h7];have hown:∀ b,avd C (s.L.set k' (.dead v)) σ b→avd C s.L σ b:=by
    rintro b (hx|⟨j,ob,e1,e2,e3⟩)
    ·exact .inl hx
    ·by_cases ej:j=k'
     ·subst ej;simp[hlt] at e1;subst e1;cases e2
     ·rw[List.getElem?_set_ne (Ne.symm ej)] at e1
      exact .inr ⟨j,ob,e1,e2,e3⟩
   rcases h8.2 with⟨e1,e2⟩|⟨g,cap,cur,e1,_,e3,e4,e5,e6,e7⟩
   ·rw[e1]
    have:xs=[]:=List.eq_nil_of_length_eq_zero e2;subst this;exact fA t
   ·rw[e1]
    refine⟨some ⟨g,0,none⟩,cap,rfl,e4,⟨e5,λh=>by cases h⟩,λ_=>⟨g,0,rfl,?_,(Array.getElem?_eq_some_iff.1 e3).1,λi hi=>⟨_,(h10 i hi).length,λj hj=>?_,(h10 i hi).keep (Υ _) (λ_ _ _=>rfl) (λb _ hb=>hown b hb)⟩⟩⟩
    ·have hg:own s.L σ k' g:=⟨_,hk,rfl,by rw[e1];rfl⟩
     rintro(hx|⟨j,ob,q1,q2,q3⟩)
     ·exact(hr.inv.off k' g hg).2 hx
     ·by_cases ej:j=k'
      ·subst ej;simp[hlt] at q1;subst q1;cases q2
      ·rw[List.getElem?_set_ne (Ne.symm ej)] at q1
       exact ej (hr.inv.inj j k' g ⟨ob,q1,q2,q3⟩ hg)
    ·have hm:(i+1)*t.size≤xs.length*t.size:=Nat.mul_le_mul_right _ hi
     rw[Nat.add_mul,Nat.one_mul] at hm;rw[ee e3,List.getElem?_take_of_lt hj,List.getElem?_drop,← e7,List.getElem?_take_of_lt ω];simp
  ·rw[hv] at h2;exact h2
 ·exact h2
theorem eC {c:Code}(t':Nat)(t:Ty)(e:TypeId)(ht:0<t.size)(hk:lkp s.env t'= .one .nils)
 (h:AWP C c Q {env:=(t',.one (.row s.L.length 0))::s.env,L:=s.L++[.row t e 0 []]}):AWP C c Q s:=by
 intro σ a w hr;have h1:=hr.env t';rw[hk] at h1;have hd:=eE (C:=C) (L:=s.L) (σ:=σ) (w:=w) (w':=w) (v:=.one (.row s.L.length 0)) (fp:=[]) (u:=a.tmps.getD t' undef) (g:=.slice none 0 0) (ob:=.row t e 0 []) hr.inv (Υ _) rfl rfl rfl (λ_ _=>rfl) (λb hb=>by cases hb)
  (λ_=>⟨[],⟨η,.inl ⟨by rw[aR],rfl⟩⟩,ht,λi hi=>by cases hi⟩)
  ⟨h1.1,.row t e 0 [],η,Υ _,λ_ _=>⟨⟨_,_,_,rfl⟩,by rw[aR];exact h1.2⟩⟩
 obtain⟨σ',d1,d2,d3⟩:=hd;have happ:app s.L {av:=.one (.row s.L.length 0),new:=[.row t e 0 []],fp:=[]}=s.L++[.row t e 0 []]:=rfl;rw[happ] at d1 d2 d3;refine h σ' a w ⟨d1,λt''=>?_,hr.size,hr.defers,hr.pres.trans d3⟩;simp only[lkp]
 by_cases e':t''=t'
 ·rw[if_pos e',e'];exact d2
 ·rw[if_neg e'];exact d3.rv (hr.env t'')
end
end Go.AV
