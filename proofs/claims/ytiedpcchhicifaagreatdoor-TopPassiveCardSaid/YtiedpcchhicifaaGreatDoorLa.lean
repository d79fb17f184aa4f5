/- Part of the proof. -/
import Derived.WalkKit
import Derived.WalkSpells
import Derived.OrdersHeld
set_option linter.unusedSimpArgs false
set_option linter.unusedVariables false
open Option.some renaming injEq→Λ
namespace Go.AV
theorem ZW:type_of% (And.intro @and_self (And.intro @and_true (And.intro @true_and (And.intro @and_false (And.intro @false_and (And.intro @if_true.{1} (And.intro @if_false.{1} (And.intro @eq_self.{1} (And.intro @Nat.one_ne_zero @Nat.zero_ne_one))))))))):=And.intro @and_self (And.intro @and_true (And.intro @true_and (And.intro @and_false (And.intro @false_and (And.intro @if_true.{1} (And.intro @if_false.{1} (And.intro @eq_self.{1} (And.intro @Nat.one_ne_zero @Nat.zero_ne_one))))))))
theorem ω {p:Prop}(h:p:=by omega):p:=h
theorem η {p:Prop}(h:p:=by simp):p:=h
theorem δ {p:Prop}(h:p:=by decide):p:=h
theorem ξ {p:Prop}(h:p:=by exact rfl):p:=h
open Go Go.RowKit
inductive Ty where
 |int (k:IntKind)
 |bool
 |str
 |list (t:Ty)
 |unit
 |pair (a b:Ty)
 deriving DecidableEq
@[reducible] def Ty.den:Ty→Type
  | .int _=>Int
  | .bool=>Bool
  | .str=>List UInt8
  | .list t=>List t.den
  | .unit=>Unit
  | .pair a b=>a.den×b.den
def Ty.dflt:(t:Ty)→t.den
 | .int _=>(0:Int)
 | .bool=>false
 | .str=>([]:List UInt8)
 | .list t=>([]:List t.den)
 | .unit=>()
 | .pair a b=>(a.dflt,b.dflt)
def Ty.size:Ty→Nat
 | .unit=>0
 | .pair a b=>a.size+b.size
 |_=>1
def gt (t:Ty)(xs:List t.den)(i:Int):t.den:=xs.getD i.toNat t.dflt
def Dat (av:Nat→Prop)(w:World):(t:Ty)→t.den→List Value→Prop
 | .int k,n,cs=>cs=[.int k n]
 | .bool,b,cs=>cs=[.bool b]
 | .str,s,cs=>cs=[.string ⟨List.toArray s⟩]
 | .list t,xs,cs=>∃ A c,cs=[.slice A (List.length xs) c]∧List.length xs≤c∧(c≤maxLen∧(A=none→c=0))∧
    (0<List.length xs→∃ b o,A=some ⟨b,o,none⟩∧¬av b∧b<w.heap.size∧
      ∀ i,i<List.length xs→∃ cs':List Value,cs'.length=t.size∧(∀ j,j<t.size→w.cell? ⟨b,o+i*t.size+j,none⟩=cs'[j]?)∧Dat av w t (List.getD xs i t.dflt) cs')
 | .unit,_,cs=>cs=[]
 | .pair a b,(x,y),cs=>∃ c1 c2,cs=c1++c2∧Dat av w a x c1∧Dat av w b y c2
theorem Dat.length {av:Nat→Prop}{w:World}:∀ {t:Ty} {d:t.den} {cs:List Value},Dat av w t d cs→cs.length=t.size
 | .int _,_,_,h=>by simp only[Dat] at h;subst h;rfl
 | .bool,_,_,h=>by simp only[Dat] at h;subst h;rfl
 | .str,_,_,h=>by simp only[Dat] at h;subst h;rfl
 | .list _,_,_,h=>by simp only[Dat] at h;obtain⟨A,c,rfl,_⟩:=h;rfl
 | .unit,_,_,h=>by simp only[Dat] at h;subst h;rfl
 | .pair a b,(x,y),cs,h=>by
   simp only[Dat] at h;obtain⟨c1,c2,rfl,h1,h2⟩:=h;rw[List.length_append,h1.length,h2.length];rfl
theorem Dat.keep {av av':Nat→Prop}{w w':World}(hs:w.heap.size≤w'.heap.size)(hb:∀ b,b<w.heap.size→¬av b→w'.heap[b]? =w.heap[b]?)
 (ha:∀ b,b<w.heap.size→av' b→av b):∀ {t:Ty} {d:t.den} {cs:List Value},Dat av w t d cs→Dat av' w' t d cs
 | .int _,_,_,h=>h
 | .bool,_,_,h=>h
 | .str,_,_,h=>h
 | .unit,_,_,h=>h
 | .pair a b,(x,y),cs,h=>by
   simp only[Dat] at h⊢;obtain⟨c1,c2,e,h1,h2⟩:=h;exact⟨c1,c2,e,h1.keep hs hb ha,h2.keep hs hb ha⟩
 | .list t,xs,cs,h=>by
   simp only[Dat] at h⊢;obtain⟨A,c,e,hc,hm,hr⟩:=h;refine⟨A,c,e,hc,hm,λh0=>?_⟩;obtain⟨b,o,eA,hav,hlt,hi⟩:=hr h0;refine⟨b,o,eA,λh=>hav (ha b hlt h),Nat.lt_of_lt_of_le hlt hs,λi hil=>?_⟩;obtain⟨cs',hl,hcell,hd⟩:=hi i hil;refine⟨cs',hl,λj hj=>?_,hd.keep hs hb ha⟩;rw[← hcell j hj];exact World.cell?_of_block (hb b hlt hav)
inductive KV where
 |int (n:Int)
 |str (s:List UInt8)
 |arr (l:List Int)
 deriving DecidableEq
inductive VK where
 |int
 |bool
def KV.val:KV→Value
 | .int n=>.int .i64 n
 | .str s=>.string ⟨s.toArray⟩
 | .arr l=>.agg (l.map (Value.int .i64)).toArray
def VK.val:VK→Int→Value
 | .int,n=>.int .i64 n
 | .bool,n=>.bool (decide (n≠0))
inductive KK where
 |int
 |str
 |arr (n:Nat)
def l6:KK→KV→Prop
 | .int,.int n=>-9223372036854775808≤n∧n≤9223372036854775807
 | .str,.str s=>s.length≤9223372036854775807
 | .arr m,.arr l=>l.length=m∧∀ x,x∈l→-9223372036854775808≤x∧x≤9223372036854775807
 |_,_=>False
structure MK where
 k:TypeId
 e:TypeId
 kk:KK
 vk:VK
def NW (P:Program)(k:TypeId):Option KK:=
 match P.underlying k with
 |some (.int .i64)=>some .int
 |some .string=>some .str
 |some (.array n e)=>match P.underlying e with
  |some (.int .i64)=>if laidOutB P&&P.keyTypeAt 50 k&&P.keyType k&&decide (k<P.types.size)&&(P.cellsOf e == 1)&&(P.cellsOf k == n) then some (.arr n) else none
  |_=>none
 |_=>none
def TI (P:Program)(e:TypeId):Option VK:=
 match(P.info? e).bind (·.zero) with
 |some (.int .i64 0)=>some .int
 |some (.bool false)=>some .bool
 |_=>none
def kM (P:Program)(T:TypeId):Option MK:=
 match P.underlying T with
 |some (.map k e)=>match NW P k,TI P e with
  |some kk,some vk=>some ⟨k,e,kk,vk⟩
  |_,_=>none
 |_=>none
inductive Cap where
 |ref (o:Nat)
 |pat (t:Ty) (d:t.den)
 |pfn (f:FuncId) (ds:List ((t:Ty)×t.den))
inductive AC where
 |junk
 |int (k:IntKind) (n:Int)
 |bool (b:Bool)
 |str (s:List UInt8)
 |list (t:Ty) (xs:List t.den)
 |nils
 |row (o ver:Nat)
 |ptr (o ver i off:Nat)
 |pat (t:Ty) (d:t.den) (off:Nat)
 |nilp
 |fn (f:FuncId) (caps:List Cap)
 |emp
 |mpv (o:Nat)
 |rwc (o ver:Nat)
 |suf (o ver p:Nat) (c:Option Nat)
 |pfn (f:FuncId) (ds:List ((t:Ty)×t.den))
 |exact(v:Value)
inductive AV where
 |undef
 |void
 |one (c:AC)
 |agg (cs:List AC)
 |tup (vs:List AV)
inductive AO where
 |dead (ver:Nat)
 |vars (T:TypeId) (cs:List AC)
 |row (t:Ty) (e:TypeId) (ver:Nat) (xs:List t.den)
 |mp (T:TypeId) (vk:VK) (es:List (KV×Int))
 |rowc (e:TypeId) (sz ver:Nat) (cs:List AC)
 |itr (s:List UInt8) (pos:Nat)
 |fact (g:Nat) (x:Obj)
def AO.ver:AO→Nat
 | .dead v=>v
 | .vars _ _=>0
 | .row _ _ v _=>v
 | .mp _ _ _=>0
 | .rowc _ _ v _=>v
 | .itr _ _=>0
 | .fact _ _=>0
def AO.live:AO→Bool
 | .dead _=>false
 | .fact _ _=>false
 |_=>true
def AO.esize:AO→Nat
 | .row t _ _ _=>t.size
 | .rowc _ sz _ _=>sz
 |_=>0
def bv {α β:Type}(p:α→β→Prop):List α→List β→Prop
 |[],[]=>True
 |a::as,b::bs=>p a b∧bv p as bs
 |_,_=>False
theorem bv.mono {α β:Type}{p q:α→β→Prop}(h:∀ a b,p a b→q a b):∀ {as:List α} {bs:List β},bv p as bs→bv q as bs
 |[],[],_=>trivial
 |_::_,_::_,⟨h1,h2⟩=>⟨h _ _ h1,h2.mono h⟩
 |[],_::_,hh=>hh.elim
 |_::_,[],hh=>hh.elim
theorem bv.length {α β:Type}{p:α→β→Prop}:∀ {as:List α} {bs:List β},bv p as bs→as.length=bs.length
 |[],[],_=>rfl
 |_::_,_::_,⟨_,h2⟩=>by simp[h2.length]
 |[],_::_,hh=>hh.elim
 |_::_,[],hh=>hh.elim
theorem bv.at_ {α β:Type}{p:α→β→Prop}:∀ {as:List α} {bs:List β} {i:Nat} {a:α},bv p as bs→as[i]? =some a→∃ b,bs[i]? =some b∧p a b
 |_::_,_::_,0,_,⟨h1,_⟩,e=>⟨_,rfl,by simp at e;subst e;exact h1⟩
 |_::_,_::_,_+1,_,⟨_,h2⟩,e=>by simpa using h2.at_ (by simpa using e)
 |[],_,_,_,_,e=>by simp at e
 |_::_,[],_,_,hh,_=>hh.elim
theorem bv.set {α β:Type}{p:α→β→Prop}:∀ {as:List α} {bs:List β} (i:Nat) {a:α} {b:β},bv p as bs→p a b→bv p (as.set i a) (bs.set i b)
 |[],[],_,_,_,_,_=>trivial
 |_::_,_::_,0,_,_,⟨_,h2⟩,h=>⟨h,h2⟩
 |_::_,_::_,i+1,_,_,⟨h1,h2⟩,h=>⟨h1,h2.set i h⟩
 |[],_::_,_,_,_,hh,_=>hh.elim
 |_::_,[],_,_,_,hh,_=>hh.elim
theorem bv.append {α β:Type}{p:α→β→Prop}:∀ {as as':List α} {bs bs':List β},bv p as bs→bv p as' bs'→bv p (as++as') (bs++bs')
 |[],_,[],_,_,h'=>h'
 |_::_,_,_::_,_,⟨h1,h2⟩,h'=>⟨h1,h2.append h'⟩
 |[],_,_::_,_,hh,_=>hh.elim
 |_::_,_,[],_,hh,_=>hh.elim
def blk:Value→Option Nat
 | .slice (some a) _ _=>some a.block
 | .pointer (some a)=>some a.block
 | .map (some b)=>some b
 |_=>none
structure Ctx where
 P:Program
 X:Nat→Prop
 keep:Nat→Prop
 w0:World
 N:Nat
 bL:List AO
 bσ:Nat→Value
 bw:World
abbrev Sig:=Nat→Value
def own (L:List AO)(σ:Sig)(o b:Nat):Prop:=∃ ob,L[o]? =some ob∧ob.live=true∧blk (σ o)=some b
def avd (C:Ctx)(L:List AO)(σ:Sig)(b:Nat):Prop:=C.X b∨∃ o,own L σ o b
def RP (L:List AO)(σ:Sig)(o ver i off:Nat)(v:Value):Prop:=
 ∃ ob,L[o]? =some ob∧ver≤ob.ver∧(ob.live=true→ver=ob.ver→∃ b,blk (σ o)=some b∧v= .pointer (some ⟨b,i*ob.esize+off,none⟩))
def kQ (C:Ctx)(L:List AO)(σ:Sig)(w:World)(t:Ty)(d:t.den)(off:Nat)(v:Value):Prop:=
 ∃ b o cs,v= .pointer (some ⟨b,o+off,none⟩)∧¬avd C L σ b∧b<w.heap.size∧(∀ j,j<t.size→w.cell? ⟨b,o+j,none⟩=cs[j]?)∧Dat (avd C L σ) w t d cs
def RFN (C:Ctx)(L:List AO)(σ:Sig)(w:World)(f:FuncId)(ds:List ((t:Ty)×t.den))(v:Value):Prop:=
 ∃ b o vs,v= .pointer (some ⟨b,o,none⟩)∧¬avd C L σ b∧b<w.heap.size∧w.cell? ⟨b,o,none⟩=some (.func (.func f) #[] (List.toArray vs))∧bv (λp u=>u.oneCell'=true∧kQ C L σ w p.1 p.2 0 u) ds vs
def qP (C:Ctx)(L:List AO)(σ:Sig)(w:World):Cap→Value→Prop
 | .ref o,u=>u.oneCell'=true∧RP L σ o 0 0 0 u
 | .pat t d,u=>u.oneCell'=true∧kQ C L σ w t d 0 u
 | .pfn f ds,u=>u.oneCell'=true∧RFN C L σ w f ds u
def RC0 (C:Ctx)(L:List AO)(σ:Sig)(w:World):AC→Value→Prop
 | .junk,_=>True
 | .int k n,v=>v= .int k n
 | .bool b,v=>v= .bool b
 | .str s,v=>v= .string ⟨s.toArray⟩
 | .list t xs,v=>Dat (avd C L σ) w (.list t) xs [v]
 | .nils,v=>v= .slice none 0 0
 | .row o ver,v=>∃ ob,L[o]? =some ob∧ver≤ob.ver∧(ob.live=true→ver=ob.ver→(∃ t e xs,ob= .row t e ver xs)∧v=σ o)
 | .ptr o ver i off,v=>RP L σ o ver i off v
 | .pat t d off,v=>kQ C L σ w t d off v
 | .nilp,v=>v= .pointer none
 | .fn f caps,v=>∃ vs:List Value,v= .func (.func f) #[] vs.toArray∧bv (qP C L σ w) caps vs
 | .emp,v=>∃ (a:Addr) (c:Nat),v= .slice (some a) 0 c∧c≤maxLen
 | .pfn f ds,v=>RFN C L σ w f ds v
 | .mpv o,v=>∃ ob,L[o]? =some ob∧(ob.live=true→0=ob.ver→(∃ T vk es,ob= .mp T vk es)∧v=σ o)
 | .rwc o ver,v=>∃ ob,L[o]? =some ob∧ver≤ob.ver∧(ob.live=true→ver=ob.ver→(∃ e sz cs,ob= .rowc e sz ver cs)∧v=σ o)
 | .suf o ver p cp,v=>∃ ob,L[o]? =some ob∧ver≤ob.ver∧(ob.live=true→ver=ob.ver→(∃ t e xs,ob= .row t e ver xs)∧∃ b n c q,(∀ x,cp=some x→c=x)∧σ o= .slice (some ⟨b,0,none⟩) n c∧p≤n∧v= .slice (some ⟨b,q,none⟩) (n-p) (c-p)∧(c-p≠0→q=p*ob.esize))
 | .exact x,v=>v=x
def RC (C:Ctx)(L:List AO)(σ:Sig)(w:World)(c:AC)(v:Value):Prop:=v.oneCell'=true∧RC0 C L σ w c v
def RV1 (C:Ctx)(L:List AO)(σ:Sig)(w:World):AV→Value→Prop
 | .one c,v=>RC C L σ w c v
 | .agg cs,v=>∃ vs:List Value,v= .agg vs.toArray∧bv (λc u=>RC C L σ w c u) cs vs
 | .undef,_=>True
 | .void,v=>v=undef
 | .tup _,_=>False
def RV (C:Ctx)(L:List AO)(σ:Sig)(w:World):AV→Value→Prop
 | .tup vs,v=>∃ us:List Value,v= .tuple us.toArray∧bv (RV1 C L σ w) vs us
 |x,v=>RV1 C L σ w x v
def OB (C:Ctx)(L:List AO)(σ:Sig)(w:World)(o:Nat):AO→Prop
 | .dead _=>True
 | .vars T cs=>∃ b vs,σ o= .pointer (some ⟨b,0,none⟩)∧w.heap[b]? =some (.cells (List.toArray vs) T (0,0))∧bv (λc u=>RC C L σ w c u) cs vs
 | .row t e _ xs=>∃ flat,w.ownsRow 0 e t.size (σ o) xs.length flat∧0<t.size∧
    ∀ i,i<xs.length→Dat (avd C L σ) w t (xs.getD i t.dflt) ((flat.drop (i*t.size)).take t.size)
 | .mp T vk es=>∃ b ents clock,σ o= .map (some b)∧w.heap[b]? =some (.map ents clock)∧ents.toList.map (λx=>(x.key,x.val))=es.map (λp=>(p.1.val,vk.val p.2))∧
    (es.map (·.1)).Nodup∧∃ mk,kM C.P T=some mk∧mk.vk=vk∧∀ p,p∈es→l6 mk.kk p.1
 | .rowc e sz _ cs=>∃ flat n,w.ownsRow 0 e sz (σ o) n flat∧0<sz∧cs.length=n*sz∧bv (λc u=>RC C L σ w c u) cs flat
 | .itr s pos=>∃ b,σ o= .pointer (some ⟨b,0,none⟩)∧w.heap[b]? =some (.stringIter ⟨List.toArray s⟩ pos)
 | .fact g x=>w.heap[g]? =some x∧¬avd C L σ g
structure INV (C:Ctx)(L:List AO)(σ:Sig)(w:World):Prop where
 ob:∀ o ob,L[o]? =some ob→OB C L σ w o ob
 inj:∀ o o' b,own L σ o b→own L σ o' b→o=o'
 off:∀ o b,own L σ o b→¬C.keep b∧¬C.X b
 kept:∀ b,C.keep b→b<C.w0.heap.size∧w.heap[b]? =C.w0.heap[b]?
 xlt:∀ b,C.X b→b<C.w0.heap.size
 size:C.w0.heap.size≤w.heap.size
 os:w.os=C.w0.os
 tape:w.tape=C.w0.tape
 output:w.output=C.w0.output
theorem jJ {C:Ctx}{L:List AO}{σ:Sig}{w:World}(h:INV C L σ w){o b:Nat}(ho:own L σ o b):b<w.heap.size:=by
 obtain⟨ob,hL,hl,hb⟩:=ho;have hob:=h.ob o ob hL
 cases ob with
 |dead _=>cases hl
 |vars T cs=>
  obtain⟨b',vs,hs,hh,_⟩:=hob;rw[hs] at hb;simp only[blk,Λ] at hb;subst hb;exact(Array.getElem?_eq_some_iff.1 hh).1
 |row t e v xs=>
  obtain⟨flat,hr,_⟩:=hob;rcases hr.2 with⟨e1,_⟩|⟨g,cap,cur,e1,_,hh,_⟩
  ·rw[e1] at hb;cases hb
  ·rw[e1] at hb
   simp only[blk,Λ] at hb;subst hb;exact(Array.getElem?_eq_some_iff.1 hh).1
 |mp T vk es=>
  obtain⟨b',ents,clock,hs,hh,_⟩:=hob;rw[hs] at hb;simp only[blk,Λ] at hb;subst hb;exact(Array.getElem?_eq_some_iff.1 hh).1
 |rowc e sz v cs=>
  obtain⟨flat,n,hr,_⟩:=hob;rcases hr.2 with⟨e1,_⟩|⟨g,cap,cur,e1,_,hh,_⟩
  ·rw[e1] at hb;cases hb
  ·rw[e1] at hb
   simp only[blk,Λ] at hb;subst hb;exact(Array.getElem?_eq_some_iff.1 hh).1
 |itr s pos=>
  obtain⟨b',hs,hh⟩:=hob;rw[hs] at hb;simp only[blk,Λ] at hb;subst hb;exact(Array.getElem?_eq_some_iff.1 hh).1
 |fact g x=>cases hl
def eB (C:Ctx)(L:List AO)(σ:Sig)(w:World)(L':List AO)(σ':Sig)(w':World):Prop:=∀ c u,RC C L σ w c u→RC C L' σ' w' c u
theorem eB.refl (C:Ctx)(L:List AO)(σ:Sig)(w:World):eB C L σ w L σ w:=λ_ _ h=>h
theorem eB.trans {C:Ctx}{L L1 L2:List AO}{σ σ1 σ2:Sig}{w w1 w2:World}(h:eB C L σ w L1 σ1 w1)(k:eB C L1 σ1 w1 L2 σ2 w2):eB C L σ w L2 σ2 w2:=λc u hh=>k c u (h c u hh)
theorem eB.rv1 {C:Ctx}{L L':List AO}{σ σ':Sig}{w w':World}(h:eB C L σ w L' σ' w'){v:AV}{u:Value}(k:RV1 C L σ w v u):RV1 C L' σ' w' v u:=by
 cases v with
 |undef=>trivial
 |void=>exact k
 |one c=>exact h _ _ k
 |agg cs=>obtain⟨vs,e,ha⟩:=k;exact⟨vs,e,ha.mono (λ_ _ x=>h _ _ x)⟩
 |tup _=>exact k.elim
theorem eB.rv {C:Ctx}{L L':List AO}{σ σ':Sig}{w w':World}(h:eB C L σ w L' σ' w'){v:AV}{u:Value}(k:RV C L σ w v u):RV C L' σ' w' v u:=by
 cases v with
 |undef=>trivial
 |void=>exact k
 |one c=>exact h _ _ k
 |agg cs=>exact h.rv1 (v:=.agg cs) k
 |tup vs=>obtain⟨us,e,ha⟩:=k;exact⟨us,e,ha.mono (λ_ _ x=>h.rv1 x)⟩
def Kin:AO→AO→Prop
 | .row t e v _,ob'=>∃ ys,ob'= .row t e v ys
 | .mp T vk _,ob'=>∃ es,ob'= .mp T vk es
 | .rowc e sz v _,ob'=>∃ cs,ob'= .rowc e sz v cs
 |_,_=>True
def Nc (σ σ':Sig)(o:Nat)(ob ob':AO):Prop:=
 ob.ver≤ob'.ver∧(ob'.live=true→ob'.ver=ob.ver→ob.live=true∧ob'.esize=ob.esize∧σ' o=σ o∧Kin ob ob')
theorem d8 {C:Ctx}{L L':List AO}{σ σ':Sig}{w w':World}(o:Nat)(h:INV C L σ w)
 (hs:w.heap.size≤w'.heap.size) (hos:w'.os=w.os) (htape:w'.tape=w.tape) (hout:w'.output=w.output)
 (hb:∀ b,b<w.heap.size→¬own L σ o b→w'.heap[b]? =w.heap[b]?)
 (hL:∀ k,k≠o→L'[k]? =L[k]?) (hσ:∀ k,k≠o→σ' k=σ k)
 (hold:∀ ob,L[o]? =some ob→∃ ob',L'[o]? =some ob'∧Nc σ σ' o ob ob')
 (hnew:∀ b,own L' σ' o b→own L σ o b∨w.heap.size≤b)
 (hob:eB C L σ w L' σ' w'→(∀ b,b<w.heap.size→avd C L' σ' b→avd C L σ b)→∀ ob',L'[o]? =some ob'→OB C L' σ' w' o ob'):
 INV C L' σ' w'∧eB C L σ w L' σ' w':=by
 have hown:∀ k b,k≠o→(own L' σ' k b↔own L σ k b):=λk b hk=>by unfold own;rw[hL k hk,hσ k hk]
 have hav:∀ b,b<w.heap.size→avd C L' σ' b→avd C L σ b:=by
  rintro b hlt (hx|⟨k,hk⟩)
  ·exact .inl hx
  ·by_cases hko:k=o
   ·subst hko
    rcases hnew b hk with h1|h1
    ·exact .inr ⟨k,h1⟩
    ·omega
   ·exact .inr ⟨k,(hown k b hko).1 hk⟩
 have hb':∀ b,b<w.heap.size→¬avd C L σ b→w'.heap[b]? =w.heap[b]?:=λb hlt ha=>hb b hlt λho=>ha (.inr ⟨o,ho⟩);have hdat:∀ {t:Ty} {d:t.den} {cs:List Value},Dat (avd C L σ) w t d cs→Dat (avd C L' σ') w' t d cs:=λhd=>hd.keep hs hb' hav;have hRP:∀ k ver i off u,RP L σ k ver i off u→RP L' σ' k ver i off u:=by
  rintro k ver i off u ⟨ob,hk,hv,hp⟩
  by_cases hko:k=o
  ·subst hko
   obtain⟨ob',hk',ht1,ht2⟩:=hold ob hk;refine⟨ob',hk',Nat.le_trans hv ht1,λhl he=>?_⟩;have e:ob'.ver=ob.ver:=ω;obtain⟨l1,l2,l3,_⟩:=ht2 hl e;obtain⟨b,hb1,hb2⟩:=hp l1 ω;exact⟨b,by rw[l3];exact hb1,by rw[l2];exact hb2⟩
  ·exact⟨ob,by rw[hL k hko];exact hk,hv,λhl he=>by rw[hσ k hko];exact hp hl he⟩
 have hRPAT:∀ t d off u,kQ C L σ w t d off u→kQ C L' σ' w' t d off u:=by
  rintro t d off u ⟨b,o',cs,e,ha,hlt,hc,hd⟩;refine⟨b,o',cs,e,λh=>ha (hav b hlt h),Nat.lt_of_lt_of_le hlt hs,λj hj=>?_,hdat hd⟩;rw[← hc j hj];exact World.cell?_of_block (hb' b hlt ha)
 have hRFN:∀ f ds u,RFN C L σ w f ds u→RFN C L' σ' w' f ds u:=by
  rintro f ds u ⟨b,o',vs,e,ha,hlt,hc,hd⟩;refine⟨b,o',vs,e,λh=>ha (hav b hlt h),Nat.lt_of_lt_of_le hlt hs,?_,hd.mono λp u hp=>⟨hp.1,hRPAT _ _ _ _ hp.2⟩⟩;rw[← hc];exact World.cell?_of_block (hb' b hlt ha)
 have hp:eB C L σ w L' σ' w':=by
  rintro c u ⟨hc1,hc⟩;refine⟨hc1,?_⟩
  cases c with
  |junk=>trivial
  |int _ _=>exact hc
  |bool _=>exact hc
  |str _=>exact hc
  |nils=>exact hc
  |nilp=>exact hc
  |list t xs=>exact hdat (t:=.list t) hc
  |row k ver=>
   obtain⟨ob,hk,hv,hp⟩:=hc
   by_cases hko:k=o
   ·subst hko
    obtain⟨ob',hk',ht1,ht2⟩:=hold ob hk;refine⟨ob',hk',Nat.le_trans hv ht1,λhl he=>?_⟩;have e:ob'.ver=ob.ver:=ω;obtain⟨l1,l2,l3,l4⟩:=ht2 hl e;obtain⟨⟨t,e',xs,hx⟩,hp2⟩:=hp l1 ω;subst hx;obtain⟨ys,hy⟩:=l4;exact⟨⟨t,e',ys,hy⟩,by rw[l3];exact hp2⟩
   ·exact⟨ob,by rw[hL k hko];exact hk,hv,λhl he=>by rw[hσ k hko];exact hp hl he⟩
  |mpv k=>
   obtain⟨ob,hk,hp⟩:=hc
   by_cases hko:k=o
   ·subst hko
    obtain⟨ob',hk',ht1,ht2⟩:=hold ob hk;refine⟨ob',hk',λhl he=>?_⟩;have e:ob'.ver=ob.ver:=ω;obtain⟨l1,l2,l3,l4⟩:=ht2 hl e;obtain⟨⟨T,vk,es,hx⟩,hp2⟩:=hp l1 ω;subst hx;obtain⟨ys,hy⟩:=l4;exact⟨⟨T,vk,ys,hy⟩,by rw[l3];exact hp2⟩
   ·exact⟨ob,by rw[hL k hko];exact hk,λhl he=>by rw[hσ k hko];exact hp hl he⟩
  |rwc k ver=>
   obtain⟨ob,hk,hv,hp⟩:=hc
   by_cases hko:k=o
   ·subst hko
    obtain⟨ob',hk',ht1,ht2⟩:=hold ob hk;refine⟨ob',hk',Nat.le_trans hv ht1,λhl he=>?_⟩;have e:ob'.ver=ob.ver:=ω;obtain⟨l1,l2,l3,l4⟩:=ht2 hl e;obtain⟨⟨e',sz,xs,hx⟩,hp2⟩:=hp l1 ω;subst hx;obtain⟨ys,hy⟩:=l4;exact⟨⟨e',sz,ys,hy⟩,by rw[l3];exact hp2⟩
   ·exact⟨ob,by rw[hL k hko];exact hk,hv,λhl he=>by rw[hσ k hko];exact hp hl he⟩
  |suf k ver p cp=>
   obtain⟨ob,hk,hv,hp⟩:=hc
   by_cases hko:k=o
   ·subst hko
    obtain⟨ob',hk',ht1,ht2⟩:=hold ob hk;refine⟨ob',hk',Nat.le_trans hv ht1,λhl he=>?_⟩;have e:ob'.ver=ob.ver:=ω;obtain⟨l1,l2,l3,l4⟩:=ht2 hl e;obtain⟨⟨t,e',xs,hx⟩,hp2⟩:=hp l1 ω;subst hx;obtain⟨ys,hy⟩:=l4;exact⟨⟨t,e',ys,hy⟩,by rw[l3,l2];exact hp2⟩
   ·exact⟨ob,by rw[hL k hko];exact hk,hv,λhl he=>by rw[hσ k hko];exact hp hl he⟩
  |ptr k ver i off=>exact hRP k ver i off u hc
  |pat t d off=>exact hRPAT t d off u hc
  |pfn f ds=>exact hRFN f ds u hc
  |emp=>exact hc
  |exact _=>exact hc
  |fn f caps=>
   obtain⟨vs,e,ha⟩:=hc;exact⟨vs,e,ha.mono λk u hk=>by
    cases k with
    |ref k=>exact⟨hk.1,hRP k 0 0 0 u hk.2⟩
    |pat t d=>exact⟨hk.1,hRPAT t d 0 u hk.2⟩
    |pfn f ds=>exact⟨hk.1,hRFN f ds u hk.2⟩⟩
 refine⟨⟨?_,?_,?_,?_,h.xlt,Nat.le_trans h.size hs,hos.trans h.os,htape.trans h.tape,hout.trans h.output⟩,hp⟩
 ·intro k ob hk
  by_cases hko:k=o
  ·subst hko;exact hob hp hav ob hk
  ·rw[hL k hko] at hk
   have h1:=h.ob k ob hk;have hfree:∀ b,own L σ k b→w'.heap[b]? =w.heap[b]?:=λb hb1=>hb b (jJ h hb1) λhb2=>hko (h.inj k o b hb1 hb2)
   cases ob with
   |dead _=>trivial
   |vars T cs=>
    obtain⟨b,vs,e1,e2,e3⟩:=h1;refine⟨b,vs,by rw[hσ k hko];exact e1,?_,e3.mono λc u hc=>hp c u hc⟩;rw[hfree b ⟨_,hk,rfl,by rw[e1];rfl⟩];exact e2
   |row t e v xs=>
    obtain⟨flat,h2,h0,h3⟩:=h1;refine⟨flat,?_,h0,λi hi=>hdat (h3 i hi)⟩;rw[hσ k hko];refine⟨h2.1,?_⟩;rcases h2.2 with h4|⟨g,cap,cur,e1,hg,hh,r⟩
    ·exact .inl h4
    ·refine .inr ⟨g,cap,cur,e1,hg,?_,r⟩
     rw[hfree g ⟨_,hk,rfl,by rw[e1];rfl⟩];exact hh
   |mp T vk es=>
    obtain⟨b,ents,clock,e1,e2,e3⟩:=h1;refine⟨b,ents,clock,by rw[hσ k hko];exact e1,?_,e3⟩;rw[hfree b ⟨_,hk,rfl,by rw[e1];rfl⟩];exact e2
   |rowc e sz v cs=>
    obtain⟨flat,n,h2,h0,hl0,h3⟩:=h1;refine⟨flat,n,?_,h0,hl0,h3.mono λc u hc=>hp c u hc⟩;rw[hσ k hko];refine⟨h2.1,?_⟩;rcases h2.2 with h4|⟨g,cap,cur,e1,hg,hh,r⟩
    ·exact .inl h4
    ·refine .inr ⟨g,cap,cur,e1,hg,?_,r⟩
     rw[hfree g ⟨_,hk,rfl,by rw[e1];rfl⟩];exact hh
   |itr s pos=>
    obtain⟨b,e1,e2⟩:=h1;refine⟨b,by rw[hσ k hko];exact e1,?_⟩;rw[hfree b ⟨_,hk,rfl,by rw[e1];rfl⟩];exact e2
   |fact g x=>
    obtain⟨e1,e2⟩:=h1;have hlt:=(Array.getElem?_eq_some_iff.1 e1).1;exact⟨(hb g hlt λhx=>e2 (.inr ⟨o,hx⟩)).trans e1,λhx=>e2 (hav g hlt hx)⟩
 ·intro k k' b h1 h2
  by_cases hk:k=o<;>by_cases hk':k'=o
  ·rw[hk,hk']
  ·subst hk
   have h2':=(hown k' b hk').1 h2;rcases hnew b h1 with h3|h3
   ·exact h.inj _ _ b h3 h2'
   ·have:=jJ h h2';omega
  ·subst hk'
   have h1':=(hown k b hk).1 h1;rcases hnew b h2 with h3|h3
   ·exact h.inj _ _ b h1' h3
   ·have:=jJ h h1';omega
  ·exact h.inj _ _ b ((hown k b hk).1 h1) ((hown k' b hk').1 h2)
 ·intro k b h1
  by_cases hk:k=o
  ·subst hk
   rcases hnew b h1 with h3|h3
   ·exact h.off k b h3
   ·exact⟨λhkk=>by have:=(h.kept b hkk).1;have:=h.size;omega,λhx=>by have:=h.xlt b hx;have:=h.size;omega⟩
  ·exact h.off k b ((hown k b hk).1 h1)
 ·intro b hkb
  obtain⟨h1,h2⟩:=h.kept b hkb;refine⟨h1,?_⟩;rw[hb b (Nat.lt_of_lt_of_le h1 h.size) λho=>(h.off o b ho).1 hkb];exact h2
theorem xx {C:Ctx}{L:List AO}{σ:Sig}{w w':World}(h:INV C L σ w)
 (hs:w.heap.size≤w'.heap.size) (hos:w'.os=w.os) (htape:w'.tape=w.tape) (hout:w'.output=w.output)
 (hb:∀ b,b<w.heap.size→w'.heap[b]? =w.heap[b]?):INV C L σ w'∧eB C L σ w L σ w':=
 d8 (L.length) h hs hos htape hout (λb hlt _=>hb b hlt) (λ_ _=>rfl) (λ_ _=>rfl)
  (λob ho=>by rw[List.getElem?_eq_none (Nat.le_refl _)] at ho;cases ho) (λb hb=>.inl hb)
  (λ_ _ ob ho=>by rw[List.getElem?_eq_none (Nat.le_refl _)] at ho;cases ho)
def sup (σ:Sig)(o:Nat)(v:Value):Sig:=λk=>if k=o then v else σ k
theorem aR (σ:Sig)(o:Nat)(v:Value):sup σ o v o=v:=by simp[sup]
theorem d6 (σ:Sig){o k:Nat}(v:Value)(h:k≠o):sup σ o v k=σ k:=by simp[sup,h]
@[reducible] def Θ:Ty:=.int .i64
@[reducible] def Γ:Ty:=.list Θ
@[reducible] def Ξ:Ty:=.pair Γ (.pair Γ .unit)
end Go.AV
