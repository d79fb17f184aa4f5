/- Part of the proof. -/
import Derived.Test.YtiedpcchhicifaaGreatDoorLa
set_option linter.unusedSimpArgs false
set_option linter.unusedVariables false
namespace Go.AV
open Go Go.RowKit
abbrev Env:=List (Nat×AV)
def lkp:Env→Nat→AV
 |[],_=>.undef
 |(k,v)::r,t=>if t=k then v else lkp r t
structure St where
 env:Env
 L:List AO
def bP:Value→Option AC
 | .int k n=>some (.int k n)
 | .bool b=>some (.bool b)
 | .string s=>some (.str s.data.toList)
 | .slice none 0 0=>some .nils
 | .pointer none=>some .nilp
 | .agg _| .tuple _=>none
 |_=>some .junk
def cR (v:Value):AV:=match bP v with|some c=>.one c|none=>.undef
def ev (s:Env):Operand→AV
 | .tmp t=>lkp s t
 | .const v=>cR v
 | .global _=>.undef
 | .func f=>.one (.fn f [])
structure REL (C:Ctx)(s:St)(σ:Sig)(a:Act)(w:World):Prop where
 inv:INV C s.L σ w
 env:∀ t,RV C s.L σ w (lkp s.env t) (a.tmps.getD t undef)
 size:a.tmps.size=C.N
 defers:a.defers=[]
 pres:eB C C.bL C.bσ C.bw s.L σ w
theorem CI {C:Ctx}{L:List AO}{σ:Sig}{w:World}{v:Value}{c:AC}(h:bP v=some c):RC C L σ w c v:=by
 unfold bP at h;split at h<;>simp only[Option.some.injEq,reduceCtorEq] at h<;>subst h
 ·exact⟨rfl,rfl⟩
 ·exact⟨rfl,rfl⟩
 ·refine⟨rfl,?_⟩;simp[RC0]
 ·exact⟨rfl,rfl⟩
 ·exact⟨rfl,rfl⟩
 ·refine⟨?_,trivial⟩
  rename_i h1 h2
  cases v<;>first|rfl|exact absurd rfl (h1 _)|exact absurd rfl (h2 _)
theorem P4 {C:Ctx}{L:List AO}{σ:Sig}{w:World}(v:Value):RV C L σ w (cR v) v:=by
 unfold cR;split
 ·rename_i c h;exact CI h
 ·trivial
theorem REL.ev {C:Ctx}{s:St}{σ:Sig}{a:Act}{w:World}(h:REL C s σ a w)(x:Operand):RV C s.L σ w (ev s.env x) (a.eval x):=by
 cases x with
 |tmp t=>exact h.env t
 |const v=>exact P4 v
 |global g=>trivial
 |func f=>exact⟨rfl,[],rfl,trivial⟩
structure Out where
 av:AV
 upd:List (Nat×AO):=[]
 new:List AO:=[]
 fp:List Nat:=[]
def cD:List AO→List (Nat×AO)→List AO
 |L,[]=>L
 |L,(k,ob)::r=>cD (L.set k ob) r
def app (L:List AO)(out:Out):List AO:=cD L out.upd++out.new
def bI (P:Program)(Post:Value→World→Prop):Result Next→Prop
 | .ok (.value v) w'=>Post v w'
 | .ok .skip w'=>Post undef w'
 | .ok (.enter f args) w'=>Calls P f args w' λe w''=>match e with| .returned v=>Post v w''|_=>False
 |_=>False
def pd (C:Ctx)(L:List AO)(σ:Sig)(w:World)(out:Out)(v:Value)(w':World):Prop:=
 ∃ σ',INV C (app L out) σ' w'∧RV C (app L out) σ' w' out.av v∧eB C L σ w (app L out) σ' w'
def bG (C:Ctx)(L0:List AO)(o:Oper)(opn:Operand→AV)(out:Out):Prop:=
 ∀ (L:List AO) (σ:Sig) (w:World) (ρ:Operand→Value),INV C L σ w→(∀ x,x∈o.op.operands→RV C L σ w (opn x) (ρ x))→(∀ k,k∈out.fp→L[k]? =L0[k]?)→L.length=L0.length→
   bI C.P (pd C L σ w out) ((execOp ρ o).run C.P w)
theorem iC {P:Program}{o:Oper}{a:Act}{w:World}{Post:Value→World→Prop}{next:Act→World→Prop}{Q:Exit→Act→World→Prop}
 (h:bI P Post ((execOp a.eval o).run P w)) (hn:∀ v w',Post v w'→next (a.put o.dst v) w'):o.wp P a w next Q:=by
 unfold Oper.wp
 generalize (execOp a.eval o).run P w=r at h
 cases r with
 |halt x w'=>exact h.elim
 |ok n w'=>
  cases n<;>simp only[bI] at h<;>simp only[Oper.upon]
  case value v=>exact hn _ _ h
  case skip=>exact hn _ _ h
  case enter f args=>
   refine h.mono λe w'' h2=>?_
   cases e with
   |returned v=>exact hn _ _ h2
   |panicked c=>exact h2.elim
   |outgrown=>exact h2.elim
def Out.val (v:AV):Out:={av:=v}
theorem m3 (L:List AO)(v:AV)(fp:List Nat):app L {av:=v,fp:=fp}=L:=by simp[app,cD]
theorem aZ {C:Ctx}{L:List AO}{σ:Sig}{w:World}{v:AV}{fp:List Nat}{u:Value}(h:INV C L σ w)(hv:RV C L σ w v u):pd C L σ w {av:=v,fp:=fp} u w:=
 ⟨σ,by rw[m3];exact h,by rw[m3];exact hv,by rw[m3];exact .refl _ _ _ _⟩
theorem mg {C:Ctx}{L:List AO}{σ:Sig}{w w':World}{v:AV}{fp:List Nat}{u:Value}(h:INV C L σ w)
 (hs:w.heap.size≤w'.heap.size) (hos:w'.os=w.os) (htape:w'.tape=w.tape) (hout:w'.output=w.output)
 (hb:∀ b,b<w.heap.size→w'.heap[b]? =w.heap[b]?) (hv:INV C L σ w'→eB C L σ w L σ w'→RV C L σ w' v u):pd C L σ w {av:=v,fp:=fp} u w':=by
 obtain⟨h1,h2⟩:=xx h hs hos htape hout hb;exact⟨σ,by rw[m3];exact h1,by rw[m3];exact hv h1 h2,by rw[m3];exact h2⟩
theorem eE {C:Ctx}{L:List AO}{σ:Sig}{w w':World}{v:AV}{fp:List Nat}{u g:Value}{ob:AO}(h:INV C L σ w)
 (hs:w.heap.size≤w'.heap.size) (hos:w'.os=w.os) (htape:w'.tape=w.tape) (hout:w'.output=w.output)
 (hb:∀ b,b<w.heap.size→w'.heap[b]? =w.heap[b]?) (hg:∀ b,blk g=some b→w.heap.size≤b)
 (hob:eB C L σ w (L++[ob]) (sup σ L.length g) w'→OB C (L++[ob]) (sup σ L.length g) w' L.length ob)
 (hv:RV C (L++[ob]) (sup σ L.length g) w' v u):pd C L σ w {av:=v,new:=[ob],fp:=fp} u w':=by
 have hne:∀ ob',L[L.length]? =some ob'→False:=λob' e=>by rw[List.getElem?_eq_none (Nat.le_refl _)] at e;cases e
 have hlast:(L++[ob])[L.length]? =some ob:=η;have:=d8 (C:=C) (L':=L++[ob]) (σ':=sup σ L.length g) L.length h hs hos htape hout (λb hlt _=>hb b hlt)
  (λk hk=>by
    rcases Nat.lt_or_ge k L.length with hl|hl
    ·rw[List.getElem?_append_left hl]
    ·rw[List.getElem?_eq_none (by simp;omega),List.getElem?_eq_none hl])
  (λk hk=>d6 σ g hk) (λob' e=>(hne ob' e).elim)
  (λb ⟨ob',e1,e2,e3⟩=>.inr (by rw[aR] at e3;exact hg b e3))
  (λhp _ ob' e=>by rw[hlast] at e;cases e;exact hob hp)
 exact⟨_,this.1,hv,this.2⟩
theorem cI {C:Ctx}{L:List AO}{σ σ':Sig}{w w':World}{v:AV}{fp:List Nat}{u:Value}{o:Nat}{ob ob':AO}(h:INV C L σ w)(ho:L[o]? =some ob)
 (hs:w.heap.size≤w'.heap.size) (hos:w'.os=w.os) (htape:w'.tape=w.tape) (hout:w'.output=w.output)
 (hb:∀ b,b<w.heap.size→¬own L σ o b→w'.heap[b]? =w.heap[b]?) (hσ:∀ k,k≠o→σ' k=σ k) (ht:Nc σ σ' o ob ob')
 (hnew:ob'.live=true→∀ b,blk (σ' o)=some b→own L σ o b∨w.heap.size≤b)
 (hob:eB C L σ w (L.set o ob') σ' w'→(∀ b,b<w.heap.size→avd C (L.set o ob') σ' b→avd C L σ b)→OB C (L.set o ob') σ' w' o ob')
 (hv:INV C (L.set o ob') σ' w'→eB C L σ w (L.set o ob') σ' w'→RV C (L.set o ob') σ' w' v u):pd C L σ w {av:=v,upd:=[(o,ob')],fp:=fp} u w':=by
 have hlt:o<L.length:=(List.getElem?_eq_some_iff.1 ho).1;have hat:(L.set o ob')[o]? =some ob':=by simp[hlt]
 have:=d8 (C:=C) (L':=L.set o ob') (σ':=σ') o h hs hos htape hout hb
  (λk hk=>by rw[List.getElem?_set_ne (λe=>hk e.symm)]) hσ
  (λob1 e=>by rw[ho] at e;cases e;exact⟨ob',hat,ht⟩)
  (λb ⟨ob1,e1,e2,e3⟩=>by rw[hat] at e1;cases e1;exact hnew e2 b e3)
  (λhp hav ob1 e=>by rw[hat] at e;cases e;exact hob hp hav)
 have e:app L {av:=v,upd:=[(o,ob')],fp:=fp}=L.set o ob':=by simp[app,cD]
 exact⟨σ',by rw[e];exact this.1,by rw[e];exact hv this.1 this.2,by rw[e];exact this.2⟩
end Go.AV
