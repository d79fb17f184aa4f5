/- Part of the proof. -/
import Derived.Test.YtiedpcchhicifaaGreatDoorLb
set_option linter.unusedSimpArgs false
set_option linter.unusedVariables false
open Option.some renaming injEq→Λ
namespace Go.AV
open Go Go.RowKit
inductive KD where
 |slice (e:TypeId)
 |struct (fs:List (Nat×TypeId×Nat))
 |array (n:Nat) (e:TypeId)
 |int (k:IntKind)
 |str
 |bool
 |map (k e:TypeId)
 |ptr (e:TypeId)
 |other
structure TD where
 k:KD
 size:Nat
 bytes:Nat
 zero:List AC
def kf (P:Program):TypeDesc→KD
 | .slice e=>.slice e
 | .struct fs=>.struct (fs.toList.map λf=>(f.offset,f.type,P.cellsOf f.type))
 | .array n e=>.array n e
 | .int k=>.int k
 | .string=>.str
 | .bool=>.bool
 | .map k e=>.map k e
 | .pointer e=>.ptr e
 |_=>.other
def j8:List Value→Option (List AC)
 |[]=>some []
 |v::r=>match bP v,j8 r with
  |some c,some cs=>some (c::cs)
  |_,_=>none
def aN (P:Program)(t:TypeId):Option TD:=
 match P.underlying t,P.info? t with
 |some d,some i=>match i.zero with
  |some z=>match j8 z.cells.toList with
   |some cs=>some {k:=kf P d,size:=i.size,bytes:=i.bytes,zero:=cs}
   |none=>none
  |none=>none
 |_,_=>none
theorem cU {P:Program}{t:TypeId}{td:TD}(h:aN P t=some td):
 ∃ d i z,P.underlying t=some d∧P.info? t=some i∧i.zero=some z∧j8 z.cells.toList=some td.zero∧i.size=td.size∧i.bytes=td.bytes∧kf P d=td.k:=by
 unfold aN at h;split at h
 ·rename_i d i h1 h2
  split at h
  ·rename_i z h3
   split at h
   ·rename_i cs h4
    simp only[Λ] at h;subst h;exact⟨d,i,z,h1,h2,h3,h4,rfl,rfl,rfl⟩
   ·cases h
  ·cases h
 ·cases h
theorem cz {C:Ctx}{L:List AO}{σ:Sig}{w:World}:∀ {vs:List Value} {cs:List AC},j8 vs=some cs→bv (RC C L σ w) cs vs
 |[],cs,h=>by simp only[j8,Λ] at h;subst h;trivial
 |v::r,cs,h=>by
  simp only[j8] at h;split at h
  ·rename_i c cs' h1 h2
   simp only[Λ] at h;subst h;exact⟨CI h1,cz h2⟩
  ·cases h
def cT:KD→Bool
 | .struct _| .array _ _=>true
 |_=>false
theorem mE {P:Program}{t:TypeId}{td:TD}(h:aN P t=some td)(w:World):(isAgg t).run P w= .ok (cT td.k) w:=by
 obtain⟨d,i,z,h1,_,_,_,_,_,h7⟩:=cU h;unfold isAgg;rw[Sem.run_bind,run_underlying h1 w,← h7]
 cases d<;>rfl
theorem bT {P:Program}{t:TypeId}{td:TD}(h:aN P t=some td)(w:World):(sizeOf t).run P w= .ok td.size w:=by
 obtain⟨d,i,z,_,h2,_,_,h5,_⟩:=cU h;simp[sizeOf,typeInfo,h2,h5]
theorem eT {P:Program}{t:TypeId}{td:TD}(h:aN P t=some td)(w:World):∃ z,(zeroValue t).run P w= .ok z w∧j8 z.cells.toList=some td.zero:=by
 obtain⟨d,i,z,_,h2,h3,h4,_⟩:=cU h;exact⟨z,by simp[zeroValue,typeInfo,h2,h3],h4⟩
theorem bS {P:Program}{t:TypeId}{td:TD}(h:aN P t=some td)(w:World):∃ d,(underlying t).run P w= .ok d w∧kf P d=td.k∧P.underlying t=some d:=by
 obtain⟨d,i,z,h1,_,_,_,_,_,h7⟩:=cU h;exact⟨d,run_underlying h1 w,h7,h1⟩
theorem bW {P:Program}{d:TypeDesc}{e:TypeId}(h:kf P d= .slice e):d= .slice e:=by
 cases d<;>simp[kf] at h;subst h;rfl
theorem lK {P:Program}{d:TypeDesc}{n:Nat}{e:TypeId}(h:kf P d= .array n e):d= .array n e:=by
 cases d<;>simp[kf] at h;obtain⟨rfl,rfl⟩:=h;rfl
theorem qd {P:Program}{d:TypeDesc}(h:kf P d= .str):d= .string:=by
 cases d<;>simp[kf] at h;rfl
theorem pV {P:Program}{d:TypeDesc}{fs:List (Nat×TypeId×Nat)}(h:kf P d= .struct fs):∃ gs,d= .struct gs∧gs.toList.map (λf=>(f.offset,f.type,P.cellsOf f.type))=fs:=by
 cases d<;>simp[kf] at h;exact⟨_,rfl,h⟩
def JX (P:Program):Nat→TypeId→Option Ty
 |0,_=>none
 |n+1,t=>match aN P t with
  |some td=>match td.k with
   | .int k=>some (.int k)
   | .bool=>some .bool
   | .str=>some .str
   | .slice e=>(JX P n e).map .list
   | .struct fs=>fs.foldr (λf acc=>match JX P n f.2.1,acc with|some a,some b=>some (.pair a b)|_,_=>none) (some .unit)
   | .array m e=>match JX P n e with
     |some a=>some ((List.range m).foldr (λ_ b=>.pair a b) .unit)
     |none=>none
   |_=>none
  |none=>none
def acs:(t:Ty)→t.den→List AC
 | .int k,n=>[.int k n]
 | .bool,b=>[.bool b]
 | .str,s=>[.str s]
 | .list t,xs=>[.list t xs]
 | .unit,_=>[]
 | .pair a b,(x,y)=>acs a x++acs b y
theorem l9:∀ (t:Ty) (d:t.den),(acs t d).length=t.size
 | .int _,_=>rfl
 | .bool,_=>rfl
 | .str,_=>rfl
 | .list _,_=>rfl
 | .unit,_=>rfl
 | .pair a b,(x,y)=>by simp[acs,l9 a x,l9 b y,Ty.size]
theorem kW {C:Ctx}{L:List AO}{σ:Sig}{w:World}:∀ {t:Ty} {d:t.den} {cs:List Value},Dat (avd C L σ) w t d cs→bv (RC C L σ w) (acs t d) cs
 | .int _,_,_,h=>by simp only[Dat] at h;subst h;exact⟨⟨rfl,rfl⟩,trivial⟩
 | .bool,_,_,h=>by simp only[Dat] at h;subst h;exact⟨⟨rfl,rfl⟩,trivial⟩
 | .str,_,_,h=>by simp only[Dat] at h;subst h;exact⟨⟨rfl,rfl⟩,trivial⟩
 | .unit,_,_,h=>by simp only[Dat] at h;subst h;trivial
 | .list t,xs,cs,h=>by
   have h':=h;simp only[Dat] at h;obtain⟨A,c,rfl,_⟩:=h;exact⟨⟨rfl,h'⟩,trivial⟩
 | .pair a b,(x,y),cs,h=>by
   simp only[Dat] at h;obtain⟨c1,c2,rfl,h1,h2⟩:=h;exact(kW h1).append (kW h2)
def bq:(t:Ty)→List AC→Option t.den
 | .int k,cs=>match cs with|[.int k' n]=>if k=k' then some n else none|_=>none
 | .bool,cs=>match cs with|[.bool b]=>some b|_=>none
 | .str,cs=>match cs with|[.str s]=>some s|_=>none
 | .list t,cs=>match cs with
   |[.list t' xs]=>if h:t'=t then some (h▸xs:List t.den) else none
   |[.nils]=>some ([]:List t.den)
   |_=>none
 | .unit,cs=>match cs with|[]=>some ()|_=>none
 | .pair a b,cs=>match bq a (cs.take a.size),bq b (cs.drop a.size) with
   |some x,some y=>some (x,y)
   |_,_=>none
theorem bv.take {α β:Type}{p:α→β→Prop}:∀ {as:List α} {bs:List β} (n:Nat),bv p as bs→bv p (as.take n) (bs.take n)
 |_,_,0,_=>by simp[bv]
 |[],[],_+1,_=>trivial
 |_::_,_::_,n+1,⟨h1,h2⟩=>⟨h1,h2.take n⟩
 |[],_::_,_+1,hh=>hh.elim
 |_::_,[],_+1,hh=>hh.elim
theorem bv.drop {α β:Type}{p:α→β→Prop}:∀ {as:List α} {bs:List β} (n:Nat),bv p as bs→bv p (as.drop n) (bs.drop n)
 |_,_,0,h=>h
 |[],[],_+1,_=>trivial
 |_::_,_::_,n+1,⟨_,h2⟩=>h2.drop n
 |[],_::_,_+1,hh=>hh.elim
 |_::_,[],_+1,hh=>hh.elim
theorem bv.one {α β:Type}{p:α→β→Prop}{a:α}{bs:List β}(h:bv p [a] bs):∃ b,bs=[b]∧p a b:=by
 cases bs with
 |nil=>exact h.elim
 |cons b r=>cases r with
  |nil=>exact⟨b,rfl,h.1⟩
  |cons c r=>exact h.2.elim
theorem bv.none {α β:Type}{p:α→β→Prop}{bs:List β}(h:bv p [] bs):bs=[]:=by
 cases bs with
 |nil=>rfl
 |cons _ _=>exact h.elim
theorem fA {av:Nat→Prop}{w:World}(t:Ty):Dat av w (.list t) ([]:List t.den) [.slice none 0 0]:=by
 simp only[Dat];exact⟨none,0,rfl,Nat.le_refl _,⟨Nat.zero_le _,λ_=>rfl⟩,λh=>absurd h η⟩
theorem iQ {C:Ctx}{L:List AO}{σ:Sig}{w:World}:∀ {t:Ty} {d:t.den} {as:List AC} {cs:List Value},bq t as=some d→bv (RC C L σ w) as cs→Dat (avd C L σ) w t d cs
 | .int k,d,as,cs,h,ha=>by
   simp only[bq] at h;split at h
   ·rename_i k' n
    split at h
    ·rename_i e;subst e
     simp only[Λ] at h;subst h;obtain⟨v,rfl,hv⟩:=ha.one;simp only[Dat];exact congrArg (λx=>[x]) hv.2
    ·cases h
   ·cases h
 | .bool,d,as,cs,h,ha=>by
   simp only[bq] at h;split at h
   ·simp only[Λ] at h;subst h
    obtain⟨v,rfl,hv⟩:=ha.one;simp only[Dat];exact congrArg (λx=>[x]) hv.2
   ·cases h
 | .str,d,as,cs,h,ha=>by
   simp only[bq] at h;split at h
   ·simp only[Λ] at h;subst h
    obtain⟨v,rfl,hv⟩:=ha.one;simp only[Dat];exact congrArg (λx=>[x]) hv.2
   ·cases h
 | .list t,d,as,cs,h,ha=>by
   simp only[bq] at h;split at h
   ·rename_i t' xs
    split at h
    ·rename_i e;subst e
     simp only[Λ] at h;subst h;obtain⟨v,rfl,hv⟩:=ha.one;exact hv.2
    ·cases h
   ·simp only[Λ] at h;subst h
    obtain⟨v,rfl,hv⟩:=ha.one;have e:v= .slice none 0 0:=hv.2;subst e;exact fA t
   ·cases h
 | .unit,d,as,cs,h,ha=>by
   simp only[bq] at h;split at h
   ·have:=ha.none;subst this;simp only[Dat]
   ·cases h
 | .pair a b,d,as,cs,h,ha=>by
   simp only[bq] at h;split at h
   ·rename_i x y h1 h2
    simp only[Λ] at h;subst h;simp only[Dat];exact⟨cs.take a.size,cs.drop a.size,(List.take_append_drop _ _).symm,iQ h1 (ha.take _),iQ h2 (ha.drop _)⟩
   ·cases h
def cG:AV→Option (List AC)
 | .one c=>some [c]
 | .agg cs=>some cs
 |_=>none
theorem m4 {C:Ctx}{L:List AO}{σ:Sig}{w:World}{v:AV}{cs:List AC}{u:Value}(h:cG v=some cs)(hv:RV C L σ w v u):bv (RC C L σ w) cs u.cells.toList:=by
 cases v with
 |undef=>cases h
 |void=>cases h
 |tup _=>cases h
 |one c=>
  simp only[cG,Λ] at h;subst h;have h1:RC C L σ w c u:=hv;have:u.cells= #[u]:=by
   have:=h1.1
   cases u<;>first|rfl|cases this
  rw[this];exact⟨h1,trivial⟩
 |agg as=>
  simp only[cG,Λ] at h;subst h;obtain⟨vs,e,ha⟩:=(hv:RV1 C L σ w (.agg as) u)
  subst e
  simpa [Value.cells] using ha
end Go.AV
