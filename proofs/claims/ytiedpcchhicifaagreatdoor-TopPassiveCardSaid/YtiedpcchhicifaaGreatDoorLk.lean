/- Part of the proof. -/
import Derived.Test.YtiedpcchhicifaaGreatDoorLj
set_option linter.unusedSimpArgs false
set_option linter.unusedVariables false
open Option.some renaming injEq→Λ
namespace Go.AV
open Go Go.RowKit
structure EL where
 e:TypeId
 size:Nat
 bytes:Nat
 zero:List AC
 t:Ty
def fD (P:Program)(T:TypeId):Option EL:=
 match aN P T with
 |some td=>match td.k with
  | .slice e=>match aN P e,JX P 8 e with
    |some te,some t=>if te.size=t.size∧te.zero.length=te.size∧0<te.size then some {e:=e,size:=te.size,bytes:=te.bytes,zero:=te.zero,t:=t} else none
    |_,_=>none
  |_=>none
 |none=>none
theorem iR {P:Program}{T:TypeId}{el:EL}(h:fD P T=some el):
 ∃ td te,aN P T=some td∧td.k= .slice el.e∧aN P el.e=some te∧te.size=el.size∧te.bytes=el.bytes∧te.zero=el.zero∧te.size=el.t.size∧te.zero.length=te.size∧0<te.size:=by
 unfold fD at h;split at h
 ·rename_i td h1
  split at h
  ·rename_i e h2
   split at h
   ·rename_i te t h3 h4
    split at h
    ·rename_i h5
     simp only[Λ] at h;subst h;exact⟨td,te,h1,h2,h3,rfl,rfl,rfl,h5⟩
    ·cases h
   ·cases h
  ·cases h
 ·cases h
def oC (P:Program):List (Nat×TypeId×Nat)→Bool
 |[]=>true
 |f::r=>(match aN P f.2.1 with|some tf=>tf.size == f.2.2&& !(f.2.2 == 0)|none=>false)&&oC P r
def fd (P:Program)(T:TypeId):Option (List (Nat×TypeId×Nat)×List AC):=
 match aN P T with
 |some td=>match td.k with
  | .struct fs=>if oC P fs then some (fs,td.zero) else none
  |_=>none
 |none=>none
theorem nv {P:Program}:∀ {fs:List (Nat×TypeId×Nat)},oC P fs=true→∀ f,f∈fs→∃ tf,aN P f.2.1=some tf∧tf.size=f.2.2∧f.2.2≠0
 |[],_,_,h=>by cases h
 |g::r,hh,f,h=>by
  simp only[oC,Bool.and_eq_true] at hh
  cases h with
  |head=>
   have:=hh.1;split at this
   ·rename_i tf h1
    simp only[Bool.and_eq_true,beq_iff_eq,Bool.not_eq_true',beq_eq_false_iff_ne] at this;exact⟨tf,h1,this.1,this.2⟩
   ·cases this
  |tail _ h=>exact nv hh.2 f h
theorem xt {P:Program}{T:TypeId}{fs:List (Nat×TypeId×Nat)}{z:List AC}(h:fd P T=some (fs,z)):
 ∃ td,aN P T=some td∧td.k= .struct fs∧td.zero=z∧∀ f,f∈fs→∃ tf,aN P f.2.1=some tf∧tf.size=f.2.2∧f.2.2≠0:=by
 unfold fd at h;split at h
 ·rename_i td h1
  split at h
  ·rename_i fs' h2
   split at h
   ·rename_i h3
    simp only[Λ,Prod.mk.injEq] at h;obtain⟨rfl,rfl⟩:=h;exact⟨td,h1,h2,rfl,nv h3⟩
   ·cases h
  ·cases h
 ·cases h
def mG (s:St)(c a b:Operand)(K:Out→Prop):Prop:=
 match ev s.env c with
 | .one (.bool t)=>(t=true→K {av:=ev s.env a})∧(t=false→K {av:=ev s.env b})
 |_=>False
def kH (P:Program)(s:St)(T:TypeId)(K:Out→Prop):Prop:=
 match aN P T with
 |some td=>K {av:=.one (.ptr s.L.length 0 0 0),new:=[.vars T td.zero]}∨
   (∃ k,s.L[k]? =some (.dead 0)∧∃ (t:Ty) (d:t.den),bq t td.zero=some d∧td.size=t.size∧0<t.size∧td.zero.length=td.size∧K {av:=.one (.ptr k 1 0 0),upd:=[(k,.row t T 1 [d])],fp:=[k]})∨
   (∃ k,s.L[k]? =some (.dead 0)∧0<td.size∧td.zero.length=td.size∧K {av:=.one (.ptr k 1 0 0),upd:=[(k,.rowc T td.size 1 td.zero)],fp:=[k]})
 |none=>False
def sd (s:St)(T:TypeId)(x:Operand)(K:Out→Prop):Prop:=
 match cG (ev s.env x) with
 |some cs=>K {av:=.one (.ptr s.L.length 0 0 0),new:=[.vars T cs]}
 |none=>False
def kn (P:Program)(s:St)(T:TypeId)(aU:Array (Nat×Operand))(K:Out→Prop):Prop:=
 match fd P T with
 |some (fs,z)=>match cu (fun(i:Nat)=>(fs[i]?).map fun(f:Nat×TypeId×Nat)=>(f.1,f.2.2)) (ev s.env) z aU.toList with
  |some cs=>K {av:=.agg cs}
  |none=>False
 |none=>match aN P T with
  |some td=>match td.k with
   | .array _ e=>match aN P e with
     |some te=>match cu (fun(i:Nat)=>some (i*te.size,te.size)) (ev s.env) td.zero aU.toList with
      |some cs=>K {av:=.agg cs}
      |none=>False
     |none=>False
   |_=>False
  |none=>False
def gd (P:Program)(s:St)(T:TypeId)(n:Nat)(aU:Array (Nat×Operand))(K:Out→Prop):Prop:=
 match fD P T with
 |some el=>match cu (λi=>some (i*el.size,el.size)) (ev s.env) (rep el.zero n) aU.toList with
  |some cs=>match eF el.t n cs with
   |some xs=>n*el.size≤16777216∧(K {av:=.one (.list el.t xs)}∨K {av:=.one (.row s.L.length 0),new:=[.row el.t el.e 0 xs]}∨(∃ k,s.L[k]? =some (.dead 0)∧K {av:=.one (.row k 1),upd:=[(k,.row el.t el.e 1 xs)],fp:=[k]})∨
     K {av:=.one (.rwc s.L.length 0),new:=[.rowc el.e el.size 0 cs]}∨∃ k,s.L[k]? =some (.dead 0)∧K {av:=.one (.rwc k 1),upd:=[(k,.rowc el.e el.size 1 cs)],fp:=[k]})
   |none=>n*el.size≤16777216∧K {av:=.one (.rwc s.L.length 0),new:=[.rowc el.e el.size 0 cs]}
  |none=>False
 |none=>False
def dR (P:Program)(s:St)(T:TypeId)(x:Operand)(K:Out→Prop):Prop:=
 match aN P T with
 |some td=>match ev s.env x with
  | .one (.ptr k ver i off)=>match s.L[k]? with
    |some (.vars _ cs)=>match bZ td cs off with
     |some v=>(ver=0∧i=0)∧K {av:=v,fp:=[k]}
     |none=>False
    |some (.row t _ v xs)=>match bZ td (acs t (xs.getD i t.dflt)) off with
     |some v'=>(ver=v∧i<List.length xs)∧K {av:=v',fp:=[k]}
     |none=>False
    |some (.rowc _ sz v cs)=>match cT td.k with
     |false=>(ver=v∧off<sz∧(i+1)*sz≤cs.length)∧K {av:=.one (cs.getD (i*sz+off) .junk),fp:=[k]}
     |true=>(ver=v∧i=0∧off=0∧td.size=sz∧cs.length=sz)∧K {av:=.agg cs,fp:=[k]}
    |_=>False
  | .one (.pat t d off)=>match bZ td (acs t d) off with
    |some v=>K {av:=v}
    |none=>False
  | .one (.pfn f ds)=>cT td.k=false∧K {av:=.one (.fn f (ds.map λp=>.pat p.1 p.2))}
  |_=>False
 |none=>False
def fo (P:Program)(s:St)(T:TypeId)(x y:Operand)(K:Out→Prop):Prop:=
 match aN P T with
 |some td=>match ev s.env x,cG (ev s.env y) with
  | .one (.ptr k ver i off),some new=>match s.L[k]? with
    |some (.vars T' cs)=>(ver=0∧i=0∧new.length=td.size∧off+td.size≤cs.length)∧K {av:=.undef,upd:=[(k,.vars T' (cg cs off new))],fp:=[k]}
    |some (.row t e v xs)=>match bq t (cg (acs t (xs.getD i t.dflt)) off new) with
     |some d=>(ver=v∧i<xs.length∧new.length=td.size∧off+td.size≤t.size)∧K {av:=.undef,upd:=[(k,.row t e ver (xs.set i d))],fp:=[k]}
     |none=>False
    |some (.rowc e sz v cs)=>(ver=v∧(i+1)*sz≤cs.length∧new.length=td.size∧off+td.size≤sz)∧K {av:=.undef,upd:=[(k,.rowc e sz ver (cg cs (i*sz+off) new))],fp:=[k]}
    |_=>False
  |_,_=>False
 |none=>False
def pN (s:St)(x:Operand)(K:Out→Prop):Prop:=
 match ev s.env x with
 | .one (.ptr k 0 i off)=>match s.L[k]? with
   |some (.vars _ _)=>K {av:=.one (.ptr k 0 i off),fp:=[k]}
   |_=>False
 | .one (.pat t d off)=>K {av:=.one (.pat t d off),fp:=[]}
 |_=>False
def gT (P:Program)(s:St)(op:BinOp)(T:TypeId)(x y:Operand)(K:Out→Prop):Prop:=
 match ev s.env x,ev s.env y with
 | .one (.int k a),.one (.int k' b)=>match cZ op k a b with
   |some (p,v)=>k=k'∧p∧K {av:=v}
   |none=>False
 | .one (.bool a),.one (.bool b)=>match op,aN P T with
   | .eql,some td=>(match td.k with| .bool=>True|_=>False)∧K {av:=.one (.bool (decide (a=b)))}
   | .neq,some td=>(match td.k with| .bool=>True|_=>False)∧K {av:=.one (.bool (!decide (a=b)))}
   |_,_=>False
 | .one c,.one .nils=>match op,aN P T with
   | .eql,some td=>(match td.k with| .slice _=>True|_=>False)∧(match c with| .nils=>K {av:=.one (.bool true)}| .emp=>K {av:=.one (.bool false)}| .list _ xs=>0<List.length xs∧K {av:=.one (.bool false)}|_=>False)
   | .neq,some td=>(match td.k with| .slice _=>True|_=>False)∧(match c with| .nils=>K {av:=.one (.bool false)}| .emp=>K {av:=.one (.bool true)}| .list _ xs=>0<List.length xs∧K {av:=.one (.bool true)}|_=>False)
   |_,_=>False
 | .one (.str a),.one (.str b)=>match gk op a b with
   |some (p,c)=>p∧K {av:=.one c}
   |none=>False
 | .agg as,.agg bs=>match op,v5 P T with
   | .eql,some ks=>match fH ks as bs with
     |some r=>K {av:=.one (.bool r)}
     |none=>False
   | .neq,some ks=>match fH ks as bs with
     |some r=>K {av:=.one (.bool (!r))}
     |none=>False
   |_,_=>False
 |_,_=>False
def tD (s:St)(op:UnOp)(x:Operand)(K:Out→Prop):Prop:=
 match op,ev s.env x with
 | .not,.one (.bool a)=>K {av:=.one (.bool (!a))}
 |_,_=>False
def gG (s:St)(x:Operand)(i:Nat)(K:Out→Prop):Prop:=
 match ev s.env x with
 | .tup vs=>match vs[i]? with
   |some (.tup _)=>False
   |some v=>K {av:=v}
   |none=>False
 |_=>False
def nD:AV→Option Cap
 | .one (.ptr k 0 0 0)=>some (.ref k)
 | .one (.pat t d 0)=>some (.pat t d)
 | .one (.pfn f ds)=>some (.pfn f ds)
 |_=>none
def iJ:List AV→Option (List Cap)
 |[]=>some []
 |v::r=>match nD v,iJ r with|some k,some ks=>some (k::ks)|_,_=>none
def fv (s:St)(fn:Fn)(first caps:Array Operand)(K:Out→Prop):Prop:=
 match fn,first.toList,iJ (caps.toList.map (ev s.env)) with
 | .func f,[],some ks=>K {av:=.one (.fn f ks)}
 |_,_,_=>False
def cH (P:Program)(s:St)(T:TypeId)(x y:Operand)(K:Out→Prop):Prop:=
 match fD P T with
 |some el=>match ev s.env x,ev s.env y,bq el.t el.zero with
  | .one (.int _ n),.one (.int _ c),some z0=>(0≤n∧n≤c∧(el.bytes:Int)*c≤281474976710656∧c≤9223372036854775807)∧(K {av:=.one (.row s.L.length 0),new:=[.row el.t el.e 0 (List.replicate n.toNat z0)]}∨K {av:=.one (.rwc s.L.length 0),new:=[.rowc el.e el.size 0 (rep el.zero n.toNat)]}∨K {av:=.one (.list el.t (List.replicate n.toNat z0))})
  |_,_,_=>False
 |none=>False
def eZ (P:Program)(s:St)(T:TypeId)(x:Operand)(lo hi mx:Option Operand)(K:Out→Prop):Prop:=
 match mx,aN P T,ev s.env x with
 |none,some _,.one (.list t xs)=>match fD P T,bnd (ev s.env) 0 lo,bnd (ev s.env) (List.length xs) hi with
  |some el,some l,some h=>el.size=t.size∧(0≤l∧l≤h∧h≤List.length xs)∧K {av:=.one (.list t ((List.take h.toNat xs).drop l.toNat))}
  |_,_,_=>False
 |none,some td,.one (.str xs)=>match bnd (ev s.env) 0 lo,bnd (ev s.env) (List.length xs) hi with
  |some l,some h=>(match td.k with| .str=>True|_=>False)∧(0≤l∧l≤h∧h≤List.length xs)∧K {av:=.one (.str ((List.take h.toNat xs).drop l.toNat))}
  |_,_=>False
 |none,some _,.one (.row k ver)=>match s.L[k]? with
  |some (.row t e v xs)=>match fD P T,bnd (ev s.env) 0 lo,bnd (ev s.env) (List.length xs) hi with
   |some el,some l,some h=>(el.size=t.size∧ver=v∧l=0)∧(0≤h∧h≤List.length xs)∧K {av:=.one (.row k (ver+1)),upd:=[(k,.row t e (ver+1) (List.take h.toNat xs))],fp:=[k]}
   |_,_,_=>False
  |_=>False
 |none,some _,.one .nils=>match fD P T,bnd (ev s.env) 0 lo,bnd (ev s.env) 0 hi with
  |some _,some l,some h=>(l=0∧h=0)∧K {av:=.one .nils}
  |_,_,_=>False
 |none,some td,.one (.pat t d off)=>∃ (kk:IntKind) (l:List Int) (e:TypeId) (te:TD) (a b:Int),AC.pat t d off= .pat (nk kk l.length) (vV kk l) 0∧td.k= .array l.length e∧aN P e=some te∧te.size=1∧
   bnd (ev s.env) 0 lo=some a∧bnd (ev s.env) (List.length l) hi=some b∧(0≤a∧a≤b∧b≤List.length l∧List.length l≤1000000)∧K {av:=.one (.list (.int kk) ((List.take b.toNat l).drop a.toNat))}
 |_,_,_=>False
def cq (P:Program)(s:St)(T:TypeId)(x:Operand)(f:Nat)(K:Out→Prop):Prop:=
 match fd P T with
 |some (fs,_)=>match fs[f]?,ev s.env x with
  |some (off,_,_),.one (.ptr k ver i o1)=>match s.L[k]? with
   |some (.vars _ _)=>ver=0∧K {av:=.one (.ptr k ver i (o1+off)),fp:=[k]}
   |some (.row _ _ v _)=>ver=v∧K {av:=.one (.ptr k ver i (o1+off)),fp:=[k]}
   |some (.rowc _ _ v _)=>ver=v∧K {av:=.one (.ptr k ver i (o1+off)),fp:=[k]}
   |_=>False
  |some (off,_,_),.one (.pat t d o1)=>K {av:=.one (.pat t d (o1+off))}
  |_,_=>False
 |none=>False
def ki (P:Program)(s:St)(T:TypeId)(x:Operand)(f:Nat)(K:Out→Prop):Prop:=
 match fd P T with
 |some (fs,_)=>match fs[f]?,ev s.env x with
  |some (off,ft,_),.agg cs=>match aN P ft with
   |some tf=>match bZ tf cs off with
    |some v=>K {av:=v}
    |none=>False
   |none=>False
  |_,_=>False
 |none=>False
def dq (P:Program)(s:St)(T:TypeId)(x ix:Operand)(K:Out→Prop):Prop:=
 match fD P T with
 |some el=>match ev s.env x,ev s.env ix with
  | .one (.list t xs),.one (.int _ i)=>el.size=t.size∧(0≤i∧i<List.length xs)∧K {av:=.one (.pat t (gt t xs i) 0)}
  | .one (.row r ver),.one (.int _ i)=>match s.L[r]? with
    |some (.row t _ v xs)=>(ver=v∧el.size=t.size)∧(0≤i∧i<List.length xs)∧K {av:=.one (.ptr r ver i.toNat 0),fp:=[r]}
    |_=>False
  | .one (.rwc r ver),.one (.int _ i)=>match s.L[r]? with
    |some (.rowc _ sz v cs)=>(ver=v∧el.size=sz)∧(0≤i∧i*(sz:Int)<List.length cs)∧K {av:=.one (.ptr r ver i.toNat 0),fp:=[r]}
    |_=>False
  |_,_=>False
 |none=>match aN P T with
  |some td=>match td.k with
   | .array n e=>match aN P e,ev s.env x,ev s.env ix with
     |some te,.one (.ptr k 0 0 off),.one (.int _ i)=>match s.L[k]? with
      |some (.vars _ _)=>te.size≠0∧(0≤i∧i<(n:Int))∧K {av:=.one (.ptr k 0 0 (off+i.toNat*te.size)),fp:=[k]}
      |_=>False
     |_,_,_=>False
   |_=>False
  |none=>False
def gV (P:Program)(s:St)(T:TypeId)(x ix:Operand)(K:Out→Prop):Prop:=
 match aN P T with
 |some td=>match td.k,ev s.env x,ev s.env ix with
  | .str,.one (.str l),.one (.int _ i)=>(0≤i∧i<List.length l)∧K {av:=.one (.int .u8 ((List.getD l i.toNat 0).toNat:Int))}
  | .array n e,.agg cs,.one (.int _ i)=>match aN P e with
    |some te=>match bZ te cs (i.toNat*te.size) with
     |some v=>(0≤i∧i<(n:Int))∧K {av:=v}
     |none=>False
    |none=>False
  |_,_,_=>False
 |none=>False
def ff (P:Program)(s:St)(x:Operand)(ats:Array TypeId)(K:Out→Prop):Prop:=
 match ats[0]? with
 |some T=>match ev s.env x with
  | .one (.mpv k)=>match s.L[k]? with
    |some (.mp T' _ es)=>T=T'∧K {av:=.one (.int .i64 (List.length es:Int)),fp:=[k]}
    |_=>False
  | .one c=>match aN P T,cY s.L c with
    |some td,some n=>dC td.k c=true∧K {av:=.one (.int .i64 (n:Int)),fp:=fa c}
    |_,_=>False
  |_=>False
 |none=>False
def cV (P:Program)(s:St)(x y:Operand)(ats:Array TypeId)(K:Out→Prop):Prop:=
 match ats.toList with
 |[T,T']=>match fD P T with
  |some el=>match ev s.env x,ev s.env y with
   | .one (.row k ver),.one c=>match s.L[k]? with
     |some (.row t e v xs)=>match di t c with
      |some ys=>(T=T'∧ver=v∧e=el.e∧el.size=t.size)∧((List.length xs+List.length ys)*el.bytes≤140737488355328∧List.length xs+List.length ys≤9223372036854775807)∧
        (K {av:=.one (.row k (ver+1)),upd:=[(k,.row t e (ver+1) (xs++ys))],fp:=[k]}∨K {av:=.one (.list t (xs++ys)),upd:=[(k,.dead (ver+1))],fp:=[k]})
      |none=>False
     |_=>False
   | .one (.rwc k ver),.one (.rwc k2 ver2)=>match s.L[k]?,s.L[k2]? with
     |some (.rowc e sz v cs),some (.rowc _ sz2 v2 cs2)=>(T=T'∧ver=v∧ver2=v2∧e=el.e∧el.size=sz∧sz2=sz∧k≠k2)∧
       (∃ n1 n2,(cs.length=n1*sz∧cs2.length=n2*sz∧0<n2)∧(n1+n2)*el.bytes≤140737488355328∧n1+n2≤9223372036854775807)∧
       K {av:=.one (.rwc k (ver+1)),upd:=[(k,.rowc e sz (ver+1) (cs++cs2))],fp:=[k,k2]}
     |_,_=>False
   | .one .nils,.one (.int .i64 n)=>match aN P T',bq el.t el.zero with
     |some td2,some z0=>(match td2.k with| .int _=>True|_=>False)∧(0<n∧n*(el.bytes:Int)≤140737488355328∧n≤9223372036854775807)∧K {av:=.one (.row s.L.length 0),new:=[.row el.t el.e 0 (List.replicate n.toNat z0)]}
     |_,_=>False
   |_,_=>False
  |none=>False
 |_=>False
def gm (s:St)(mx:Bool)(x y:Operand)(K:Out→Prop):Prop:=
 match ev s.env x,ev s.env y with
 | .one (.int k a),.one (.int k' b)=>k=k'∧K {av:=.one (.int k (if mx then max a b else min a b))}
 |_,_=>False
def kC (P:Program)(s:St)(T:TypeId)(r:Option Operand)(K:Out→Prop):Prop:=
 match r,kM P T with
 |none,some mk=>K {av:=.one (.mpv s.L.length),new:=[.mp T mk.vk []]}
 |_,_=>False
def lC (P:Program)(s:St)(T:TypeId)(x ix:Operand)(ok:Bool)(K:Out→Prop):Prop:=
 match kM P T,ev s.env x,bB (ev s.env ix) with
 |some mk,.one (.mpv k),some key=>match s.L[k]? with
  |some (.mp T' vk es)=>(T=T'∧l6 mk.kk key)∧K {av:=if ok then .tup [.one (vk.ac ((bD es key).getD 0)),.one (.bool (bD es key).isSome)] else .one (vk.ac ((bD es key).getD 0)),fp:=[k]}
  |_=>False
 |_,_,_=>False
def valOf:VK→AV→Option Int
 | .int,.one (.int .i64 n)=>some n
 | .bool,.one (.bool b)=>some (if b then 1 else 0)
 |_,_=>none
def fO (P:Program)(s:St)(T:TypeId)(m x v:Operand)(K:Out→Prop):Prop:=
 match kM P T,ev s.env m,bB (ev s.env x) with
 |some mk,.one (.mpv k),some key=>match s.L[k]? with
  |some (.mp T' vk es)=>match valOf vk (ev s.env v) with
   |some n=>(T=T'∧l6 mk.kk key)∧K {av:=.undef,upd:=[(k,.mp T' vk (f0 es key n))],fp:=[k]}
   |none=>False
  |_=>False
 |_,_,_=>False
def CU (P:Program)(s:St)(T:TypeId)(x:Operand)(K:Out→Prop):Prop:=
 match aN P T with
 |some td=>match td.k,ev s.env x with
  | .str,.one (.str l)=>K {av:=.one (.ptr s.L.length 0 0 0),new:=[.itr l 0]}
  |_,_=>False
 |none=>False
def GY (s:St)(x:Operand)(isS:Bool)(K:Out→Prop):Prop:=
 match isS,ev s.env x with
 |true,.one (.ptr k 0 0 0)=>match s.L[k]? with
  |some (.itr l pos)=>K {av:=.tup (.one (.bool (decide (pos<List.length l)))::Bk l pos),upd:=[(k,.itr l (B0 l pos))],fp:=[k]}
  |_=>False
 |_,_=>False
def eJ (P:Program)(s:St)(T T':TypeId)(x:Operand)(K:Out→Prop):Prop:=
 match aN P T,aN P T' with
 |some td,some td'=>match td'.k,ev s.env x with
  | .int k',.one (.int _ n)=>inK k' n∧K {av:=.one (.int k' n)}
  | .str,.one (.list (.int .u8) xs)=>(∃ e te,td.k= .slice e∧aN P e=some te∧te.k= .int .u8)∧K {av:=.one (.str (List.map (λn=>UInt8.ofNat (Int.toNat n)) xs))}
  |_,_=>False
 |_,_=>False
def Bw (P:Program)(s:St)(g:Operand)(as:Array Operand)(K:Out→Prop):Prop:=
 match ev s.env g with
 | .one (.fn f caps)=>∃ out,cS P s.L f (as.toList.map (ev s.env)++caps.map dG) out∧K out
 |_=>False
def cC (P:Program)(s:St)(c:Call)(K:Out→Prop):Prop:=
 match c.callee with
 | .value g=>Bw P s g c.args K
 | .builtin b=>match b,c.args.toList with
   | .len,[x]=>ff P s x c.argTypes K
   | .append,[x,y]=>cV P s x y c.argTypes K
   | .max,[x,y]=>gm s true x y K
   | .min,[x,y]=>gm s false x y K
   | .cap,[x]=>match c.argTypes[0]? with
     |some T=>match aN P T,ev s.env x with
      |some td,.one .nils=>(match td.k with| .slice _=>True|_=>False)∧K {av:=.one (.int .i64 0)}
      |_,_=>False
     |none=>False
   |_,_=>False
 |_=>False
def op1 (P:Program)(s:St)(o:Oper)(K:Out→Prop):Prop:=
 match o.op with
 | .move x=>K {av:=ev s.env x}
 | .assign x=>K {av:=ev s.env x}
 | .pick c a b=>mG s c a b K
 | .alloc T=>kH P s T K
 | .box T x=>sd s T x K
 | .build T aU=>kn P s T aU K
 | .buildSlice T n aU=>gd P s T n aU K
 | .load T x=>dR P s T x K
 | .store T x y=>fo P s T x y K
 | .nilCheck x=>pN s x K
 | .binOp op T x y _=>gT P s op T x y K
 | .unOp op _ x=>tD s op x K
 | .extract x i=>gG s x i K
 | .makeFunc fn first caps=>fv s fn first caps K
 | .makeSlice T x y=>cH P s T x y K
 | .slice T x lo hi mx=>eZ P s T x lo hi mx K
 | .fieldAddr T x f=>cq P s T x f K
 | .field T x f=>ki P s T x f K
 | .indexAddr T x ix=>dq P s T x ix K
 | .index T x ix=>gV P s T x ix K
 | .call c=>cC P s c K
 | .makeMap T r=>kC P s T r K
 | .lookup T x ix ok=>lC P s T x ix ok K
 | .mapUpdate T m x v=>fO P s T m x v K
 | .insert T m x v=>fO P s T m x v K
 | .range T x=>CU P s T x K
 | .next x isS=>GY s x isS K
 | .convert T T' x=>eJ P s T T' x K
 |_=>False
section
variable {C:Ctx} {s:St} {o:Oper} {K:Out→Prop}
theorem Ex {c a b:Operand}(ho:o.op= .pick c a b)(h:mG s c a b K):∃ out,bG C s.L o (ev s.env) out∧K out:=by
 unfold mG at h;split at h
 ·rename_i t hc
  have:=y0 (C:=C) (L0:=s.L) (opn:=ev s.env) ho hc
  cases t
  ·exact⟨_,this,h.2 rfl⟩
  ·exact⟨_,this,h.1 rfl⟩
 ·exact h.elim
theorem Cp {T:TypeId}{x:Operand}(ho:o.op= .load T x)(h:dR C.P s T x K):∃ out,bG C s.L o (ev s.env) out∧K out:=by
 unfold dR at h;split at h
 ·rename_i td ht
  split at h
  ·rename_i k ver i off hx
   split at h
   ·rename_i T' cs hob
    split at h
    ·rename_i v hr
     obtain⟨⟨h1,h2⟩,hK⟩:=h;exact⟨_,mH ho ht hx (by simp only[cK,hob,h1,h2,and_self,if_true]) hr,hK⟩
    ·exact h.elim
   ·rename_i t e v xs hob
    split at h
    ·rename_i v' hr
     obtain⟨⟨h1,h2⟩,hK⟩:=h;exact⟨_,mH ho ht hx (by simp only[cK,hob,h1,h2,and_self,if_true]) hr,hK⟩
    ·exact h.elim
   ·rename_i e sz v cs hob
    split at h
    ·rename_i h0
     obtain⟨⟨h1,h2,h3⟩,hK⟩:=h;have h3':=h3;rw[Nat.add_mul,Nat.one_mul] at h3';refine⟨_,mH ho ht hx (cs:=(cs.drop (i*sz)).take sz) (by simp only[cK,hob,h1,h3,and_self,if_true]) ?_,hK⟩;unfold bZ;rw[h0,List.getElem?_take_of_lt h2,List.getElem?_drop];have h4:i*sz+off<cs.length:=ω;simp[List.getD,List.getElem?_eq_getElem h4]
    ·rename_i h0
     obtain⟨⟨h1,h2,h3,h4,h5⟩,hK⟩:=h;subst h2;subst h3;refine⟨_,mH ho ht hx (cs:=cs) (by
      have hle:(0+1)*sz≤cs.length:=ω;simp only[cK,hob,h1,hle,and_self,if_true,Nat.zero_mul,List.drop_zero,Λ];exact List.take_of_length_le ω) ?_,hK⟩
     unfold bZ;rw[h0,if_pos rfl,if_pos ω];rw[List.drop_zero,List.take_of_length_le ω]
   ·exact h.elim
  ·rename_i t d off hx
   split at h
   ·rename_i v hr
    exact⟨_,vh ho ht hx hr,h⟩
   ·exact h.elim
  ·rename_i f ds hx
   exact⟨_,x8 ho ht h.1 hx,h.2⟩
  ·exact h.elim
 ·exact h.elim
theorem Au {T:TypeId}{x y:Operand}(ho:o.op= .store T x y)(h:fo C.P s T x y K):∃ out,bG C s.L o (ev s.env) out∧K out:=by
 unfold fo at h;split at h
 ·rename_i td ht
  split at h
  ·rename_i k ver i off new hx hy
   split at h
   ·rename_i T' cs hob
    obtain⟨⟨rfl,rfl,h1,h2⟩,hK⟩:=h;exact⟨_,C8 ho ht hx hob hy h1 h2,hK⟩
   ·rename_i t e v xs hob
    split at h
    ·rename_i d hd
     obtain⟨⟨rfl,h0,h1,h2⟩,hK⟩:=h;exact⟨_,uw ho ht hx hob h0 hy h1 h2 hd,hK⟩
    ·exact h.elim
   ·rename_i e sz v cs hob
    obtain⟨⟨rfl,h0,h1,h2⟩,hK⟩:=h;exact⟨_,sr ho ht hx hob h0 hy h1 h2,hK⟩
   ·exact h.elim
  ·exact h.elim
 ·exact h.elim
theorem EX {x:Operand}(ho:o.op= .nilCheck x)(h:pN s x K):∃ out,bG C s.L o (ev s.env) out∧K out:=by
 unfold pN at h;split at h
 ·rename_i k i off hx
  split at h
  ·rename_i T cs hob
   have:=np (C:=C) (L0:=s.L) (opn:=ev s.env) ho (.inl ⟨k,i,off,hx,T,cs,hob⟩);rw[hx] at this;exact⟨_,this,h⟩
  ·exact h.elim
 ·rename_i t d off hx
  have:=np (C:=C) (L0:=s.L) (opn:=ev s.env) ho (.inr ⟨t,d,off,hx⟩);rw[hx] at this;exact⟨_,this,h⟩
 ·exact h.elim
theorem EK {op:BinOp}{T T':TypeId}{x y:Operand}(ho:o.op= .binOp op T x y T')(h:gT C.P s op T x y K):∃ out,bG C s.L o (ev s.env) out∧K out:=by
 unfold gT at h;split at h
 ·rename_i k a k' b hx hy
  split at h
  ·rename_i p v hr
   obtain⟨rfl,hp,hK⟩:=h;exact⟨_,E4 ho hx hy hr hp,hK⟩
  ·exact h.elim
 ·rename_i a b hx hy
  split at h
  ·rename_i td ht
   have hk:td.k= .bool:=by
    have:=h.1
    cases hk:td.k<;>simp[hk] at this;rfl
   exact⟨_,qR (neg:=false) ho ht hk hx hy,h.2⟩
  ·rename_i td ht
   have hk:td.k= .bool:=by
    have:=h.1
    cases hk:td.k<;>simp[hk] at this;rfl
   exact⟨_,qR (neg:=true) ho ht hk hx hy,h.2⟩
  ·exact h.elim
 ·rename_i c hx hy
  split at h
  ·rename_i td ht
   obtain⟨hk0,h⟩:=h;have hk:∃ e,td.k= .slice e:=by
    cases hk:td.k<;>simp[hk] at hk0;exact⟨_,rfl⟩
   obtain⟨e,hk⟩:=hk;split at h
   ·exact⟨_,iy (neg:=false) ho ht hk hx hy (.inl ⟨rfl,rfl⟩),h⟩
   ·exact⟨_,iy (neg:=false) ho ht hk hx hy (.inr (.inl ⟨rfl,rfl⟩)),h⟩
   ·exact⟨_,iy (neg:=false) ho ht hk hx hy (.inr (.inr ⟨_,_,rfl,h.1,rfl⟩)),h.2⟩
   ·exact h.elim
  ·rename_i td ht
   obtain⟨hk0,h⟩:=h;have hk:∃ e,td.k= .slice e:=by
    cases hk:td.k<;>simp[hk] at hk0;exact⟨_,rfl⟩
   obtain⟨e,hk⟩:=hk;split at h
   ·exact⟨_,iy (neg:=true) ho ht hk hx hy (.inl ⟨rfl,rfl⟩),h⟩
   ·exact⟨_,iy (neg:=true) ho ht hk hx hy (.inr (.inl ⟨rfl,rfl⟩)),h⟩
   ·exact⟨_,iy (neg:=true) ho ht hk hx hy (.inr (.inr ⟨_,_,rfl,h.1,rfl⟩)),h.2⟩
   ·exact h.elim
  ·exact h.elim
 ·rename_i a b hx hy
  split at h
  ·rename_i p c hs;exact⟨_,Ka ho hx hy hs h.1,h.2⟩
  ·exact h.elim
 ·rename_i as bs hx hy
  split at h
  ·rename_i ks hf
   split at h
   ·rename_i r he
    exact⟨_,qW (neg:=false) ho hf hx hy he,h⟩
   ·exact h.elim
  ·rename_i ks hf
   split at h
   ·rename_i r he
    exact⟨_,qW (neg:=true) ho hf hx hy he,h⟩
   ·exact h.elim
  ·exact h.elim
 ·exact h.elim
theorem Dk {v:AV}{k:Cap}(h:nD v=some k):v=dG k:=by
 unfold nD at h;split at h<;>simp only[Λ,reduceCtorEq] at h<;>subst h<;>rfl
theorem r9:∀ {l:List AV} {ks:List Cap},iJ l=some ks→l=ks.map dG
 |[],ks,h=>by simp only[iJ,Λ] at h;subst h;rfl
 |v::r,ks,h=>by
  simp only[iJ] at h;split at h
  ·rename_i k ks' h1 h2
   simp only[Λ] at h;subst h;simp[r9 h2,Dk h1]
  ·cases h
theorem rH {T:TypeId}{x:Operand}{f:Nat}(ho:o.op= .fieldAddr T x f)(h:cq C.P s T x f K):∃ out,bG C s.L o (ev s.env) out∧K out:=by
 unfold cq at h;split at h
 ·rename_i fs z hst
  obtain⟨td,ht,hk,_,hall⟩:=xt hst;split at h
  ·rename_i off ft sz k ver i o1 hf hx
   obtain⟨_,_,_,hne⟩:=hall _ (List.mem_of_getElem? hf);split at h
   ·rename_i T' cs hob
    obtain⟨rfl,hK⟩:=h;exact⟨_,jC ho ht hk hf hne hx hob rfl rfl,hK⟩
   ·rename_i t e v xs hob
    obtain⟨rfl,hK⟩:=h;exact⟨_,jC ho ht hk hf hne hx hob rfl rfl,hK⟩
   ·rename_i e sz v cs hob
    obtain⟨rfl,hK⟩:=h;exact⟨_,jC ho ht hk hf hne hx hob rfl rfl,hK⟩
   ·exact h.elim
  ·rename_i off ft sz t d o1 hf hx
   obtain⟨_,_,_,hne⟩:=hall _ (List.mem_of_getElem? hf);exact⟨_,pb ho ht hk hf hne hx,h⟩
  ·exact h.elim
 ·exact h.elim
theorem B6 {T:TypeId}{x:Operand}{f:Nat}(ho:o.op= .field T x f)(h:ki C.P s T x f K):∃ out,bG C s.L o (ev s.env) out∧K out:=by
 unfold ki at h;split at h
 ·rename_i fs z hst
  obtain⟨td,ht,hk,_,hall⟩:=xt hst;split at h
  ·rename_i off ft sz cs hf hx
   split at h
   ·rename_i tf htf
    split at h
    ·rename_i v hr
     exact⟨_,Dj ho ht hk hf htf hx hr,h⟩
    ·exact h.elim
   ·exact h.elim
  ·exact h.elim
 ·exact h.elim
theorem ru {T:TypeId}{x ix:Operand}(ho:o.op= .indexAddr T x ix)(h:dq C.P s T x ix K):∃ out,bG C s.L o (ev s.env) out∧K out:=by
 unfold dq at h;split at h
 ·rename_i el hel
  obtain⟨td,te,ht,hk,hte,h1,h2,h3,h4,h5,h6⟩:=iR hel;split at h
  ·rename_i t xs k i hx hix
   obtain⟨hs,⟨h7,h8⟩,hK⟩:=h;exact⟨_,rR ho ht hk hte (by rw[h1,hs]) hx hix h7 h8,hK⟩
  ·rename_i r ver k i hx hix
   split at h
   ·rename_i t e v xs hob
    obtain⟨⟨rfl,hs⟩,⟨h7,h8⟩,hK⟩:=h;exact⟨_,ur ho ht hk hte (by rw[h1,hs]) hx hob hix h7 h8,hK⟩
   ·exact h.elim
  ·rename_i r ver k i hx hix
   split at h
   ·rename_i e sz v cs hob
    obtain⟨⟨rfl,hs⟩,⟨h7,h8⟩,hK⟩:=h;exact⟨_,t8 ho ht hk hte (by rw[h1,hs]) hx hob hix h7 h8,hK⟩
   ·exact h.elim
  ·exact h.elim
 ·split at h
  ·rename_i td ht
   split at h
   ·rename_i n e hk
    split at h
    ·rename_i te k off k' i hte hx hix
     split at h
     ·rename_i T' cs hob
      obtain⟨h6,⟨h7,h8⟩,hK⟩:=h;exact⟨_,uC ho ht hk hte hx hob hix h7 h8 h6,hK⟩
     ·exact h.elim
    ·exact h.elim
   ·exact h.elim
  ·exact h.elim
theorem Ax {T:TypeId}{x:Operand}{lo hi mx:Option Operand}(ho:o.op= .slice T x lo hi mx)(h:eZ C.P s T x lo hi mx K):∃ out,bG C s.L o (ev s.env) out∧K out:=by
 unfold eZ at h;split at h
 ·rename_i t xs ht hx
  split at h
  ·rename_i el l h' hel hlo hhi
   obtain⟨td',te,ht',hk,hte,h1,h2,h3,h4,h5,h6⟩:=iR hel;obtain⟨hs,⟨q1,q2,q3⟩,hK⟩:=h;exact⟨_,rG ho ht' hk hte (by rw[h1,hs]) hx hlo hhi q1 q2 q3,hK⟩
  ·exact h.elim
 ·rename_i td xs ht hx
  split at h
  ·rename_i l h' hlo hhi
   obtain⟨hs,⟨q1,q2,q3⟩,hK⟩:=h;have hk:td.k= .str:=by cases hk:td.k<;>simp[hk] at hs;rfl
   exact⟨_,uD ho ht hk hx hlo hhi q1 q2 q3,hK⟩
  ·exact h.elim
 ·rename_i k ver ht hx
  split at h
  ·rename_i t e v xs hob
   split at h
   ·rename_i el l h' hel hlo hhi
    obtain⟨td',te,ht',hk,hte,h1,h2,h3,h4,h5,h6⟩:=iR hel;obtain⟨⟨hs,rfl,rfl⟩,⟨q2,q3⟩,hK⟩:=h;exact⟨_,uF ho ht' hk hte (by rw[h1,hs]) hx hob hlo hhi q2 q3,hK⟩
   ·exact h.elim
  ·exact h.elim
 ·rename_i ht hx
  split at h
  ·rename_i el l h' hel hlo hhi
   obtain⟨td',te,ht',hk,hte,h1,h2,h3,h4,h5,h6⟩:=iR hel;obtain⟨⟨rfl,rfl⟩,hK⟩:=h;exact⟨_,uz ho ht' hk hte hx hlo hhi,hK⟩
  ·exact h.elim
 ·rename_i td t d off ht hx
  obtain⟨kk,l,e,te,a,b,ed,hk,hte,hsz,hlo,hhi,⟨q1,q2,q3,q4⟩,hK⟩:=h;rw[ed] at hx;exact⟨_,ut ho ht hk hte hsz hx hlo hhi q1 q2 q3 q4,hK⟩
 ·exact h.elim
theorem yf {x y:Operand}{ats:Array TypeId}(ho:o.op= .call {callee:=.builtin .append,args:=#[x,y],argTypes:=ats})(h:cV C.P s x y ats K):∃ out,bG C s.L o (ev s.env) out∧K out:=by
 unfold cV at h;split at h
 ·rename_i T T' hats
  have ha0:ats= #[T,T']:=by rw[← Array.toArray_toList (xs:=ats),hats]
  split at h
  ·rename_i el hel
   obtain⟨td,te,ht,hk,hte,h1,h2,h3,h4,h5,h6⟩:=iR hel;split at h
   ·rename_i k ver c hx hy
    split at h
    ·rename_i t e v xs hob
     split at h
     ·rename_i ys hs
      obtain⟨⟨rfl,rfl,rfl,hsz⟩,⟨h7,h8⟩,hK⟩:=h;have hga:=BH ho ha0 ht hk hte (by rw[h1,hsz]) (by rw[h5,h1,hsz]) hx hob hy hs (by rw[h2];exact h7) h8;rcases hK with hK|hK
      ·exact⟨_,hga,hK⟩
      ·exact⟨_,MI (List.getElem?_eq_some_iff.1 hob).1 hga,hK⟩
     ·exact h.elim
    ·exact h.elim
   ·rename_i k ver k2 ver2 hx hy
    split at h
    ·rename_i e sz v cs e2 sz2 v2 cs2 hob hob2
     obtain⟨⟨rfl,rfl,rfl,rfl,hsz,rfl,hkk⟩,⟨n1,n2,⟨q1,q2,q3⟩,q4,q5⟩,hK⟩:=h;exact⟨_,qt ho ha0 ht hk hte (by rw[h1,hsz]) h5 h6 hx hob hy hob2 hkk q1 q2 q3 (by rw[h2];exact q4) q5,hK⟩
    ·exact h.elim
   ·rename_i n hx hy
    split at h
    ·rename_i td2 z0 ht2 hz0
     obtain⟨hq,⟨q1,q2,q3⟩,hK⟩:=h;have hk2:∃ q,td2.k= .int q:=by
      cases hq2:td2.k<;>simp[hq2] at hq
      exact⟨_,rfl⟩
     exact⟨_,pS ho ha0 ht hk ht2 hk2 hte h4 h5 h6 hx hy q1 (by rw[h2];exact q2) q3 (by rw[h3];exact hz0),hK⟩
    ·exact h.elim
   ·exact h.elim
  ·exact h.elim
 ·exact h.elim
theorem Ak {mx:Bool}{x y:Operand}{ats:Array TypeId}(ho:o.op= .call {callee:=.builtin (if mx then .max else .min),args:=#[x,y],argTypes:=ats})(h:gm s mx x y K):∃ out,bG C s.L o (ev s.env) out∧K out:=by
 unfold gm at h;split at h
 ·rename_i k a k' b hx hy
  obtain⟨rfl,hK⟩:=h
  cases mx
  ·exact⟨_,Kj ho hx hy,hK⟩
  ·exact⟨_,La ho hx hy,hK⟩
 ·exact h.elim
theorem yF {vk:VK}{v:AV}{n:Int}(h:valOf vk v=some n):v= .one (vk.ac n):=by
 unfold valOf at h;split at h
 ·simp only[Λ] at h;subst h;rfl
 ·rename_i b
  simp only[Λ] at h;subst h
  cases b<;>rfl
 ·cases h
theorem Di {c:Call}(ho:o.op= .call c)(h:cC C.P s c K):∃ out,bG C s.L o (ev s.env) out∧K out:=by
 obtain⟨callee,as,ats⟩:=c;unfold cC at h
 cases callee with
 |value g=>
  simp only at h;unfold Bw at h;split at h
  ·rename_i f caps hg
   obtain⟨out,hc,hK⟩:=h;exact⟨out,wE ho hg hc,hK⟩
  ·exact h.elim
 |invoke r m=>exact h.elim
 |builtin b=>
  simp only at h;split at h
  ·rename_i x has
   have:as= #[x]:=by rw[← Array.toArray_toList (xs:=as),has]
   subst this;unfold ff at h;split at h
   ·rename_i T hat
    split at h
    ·rename_i k hx
     split at h
     ·rename_i T' vk es hob
      obtain⟨rfl,h⟩:=h;exact⟨_,AK ho hat hx hob,h⟩
     ·exact h.elim
    ·rename_i c hnm hx
     split at h
     ·rename_i td n ht hn
      exact⟨_,Lg ho hat ht h.1 hx hn,h.2⟩
     ·exact h.elim
    ·exact h.elim
   ·exact h.elim
  ·rename_i x y has
   have:as= #[x,y]:=by rw[← Array.toArray_toList (xs:=as),has]
   subst this;exact yf ho h
  ·rename_i x y has
   have:as= #[x,y]:=by rw[← Array.toArray_toList (xs:=as),has]
   subst this;exact Ak (mx:=true) ho h
  ·rename_i x y has
   have:as= #[x,y]:=by rw[← Array.toArray_toList (xs:=as),has]
   subst this;exact Ak (mx:=false) ho h
  ·rename_i x has
   have:as= #[x]:=by rw[← Array.toArray_toList (xs:=as),has]
   subst this;split at h
   ·rename_i T hat
    split at h
    ·rename_i td ht hx
     have hk:∃ e,td.k= .slice e:=by
      have:=h.1
      cases hk:td.k<;>simp[hk] at this
      exact⟨_,rfl⟩
     exact⟨_,Av ho hat ht hk hx,h.2⟩
    ·exact h.elim
   ·exact h.elim
  ·exact h.elim
theorem wi (h:op1 C.P s o K):∃ out,bG C s.L o (ev s.env) out∧K out:=by
 unfold op1 at h;split at h
 ·rename_i x ho;exact⟨_,EU ho,h⟩
 ·rename_i x ho;exact⟨_,Az ho,h⟩
 ·rename_i c a b ho;exact Ex ho h
 ·rename_i T ho
  unfold kH at h;split at h
  ·rename_i td ht
   rcases h with h|⟨k,hob,t,d,h1,h2,h3,h4,h⟩|⟨k,hob,h1,h2,h⟩
   ·exact⟨_,Cv ho ht,h⟩
   ·exact⟨_,rX ho ht hob h1 h2 h3 h4,h⟩
   ·exact⟨_,qf ho ht hob h1 h2,h⟩
  ·exact h.elim
 ·rename_i T x ho
  unfold sd at h;split at h
  ·rename_i cs hc;exact⟨_,LG ho hc,h⟩
  ·exact h.elim
 ·rename_i T aU ho
  unfold kn at h;split at h
  ·rename_i fs z hst
   obtain⟨td,ht,hk,hz,hall⟩:=xt hst;split at h
   ·rename_i cs hf
    exact⟨_,CN ho ht hk (λf hf=>by obtain⟨tf,a,b,_⟩:=hall f hf;exact⟨tf,a,b⟩) (by rw[hz];exact hf),h⟩
   ·exact h.elim
  ·split at h
   ·rename_i td ht
    split at h
    ·rename_i n e hk
     split at h
     ·rename_i te hte
      split at h
      ·rename_i cs hf
       exact⟨_,uI ho ht hk hte hf,h⟩
      ·exact h.elim
     ·exact h.elim
    ·exact h.elim
   ·exact h.elim
 ·rename_i T n aU ho
  unfold gd at h;split at h
  ·rename_i el hel
   obtain⟨td,te,ht,hk,hte,h1,h2,h3,h4,h5,h6⟩:=iR hel;split at h
   ·rename_i cs hf
    split at h
    ·rename_i xs hc
     rcases h.2 with h2'|h2'|⟨k,hk0,h2'⟩|h2'|⟨k,hk0,h2'⟩
     ·exact⟨_,sh ho ht hk hte h4 h5 h6 (by rw[h1];exact h.1) (by rw[h1,h3];exact hf) hc,h2'⟩
     ·exact⟨_,nW ho ht hk hte h4 h5 h6 (by rw[h1];exact h.1) (by rw[h1,h3];exact hf) hc,h2'⟩
     ·exact⟨_,nc hk0 ho ht hk hte h4 h5 h6 (by rw[h1];exact h.1) (by rw[h1,h3];exact hf) hc,h2'⟩
     ·exact⟨_,ng ho ht hk hte h4 h5 h6 (by rw[h1];exact h.1) (by rw[h1,h3];exact hf) hc,by rw[h1];exact h2'⟩
     ·exact⟨_,mL hk0 ho ht hk hte h4 h5 h6 (by rw[h1];exact h.1) (by rw[h1,h3];exact hf) hc,by rw[h1];exact h2'⟩
    ·exact⟨_,nf (t:=el.t) ho ht hk hte h4 h5 h6 (by rw[h1];exact h.1) (by rw[h1,h3];exact hf),by rw[h1];exact h.2⟩
   ·exact h.elim
  ·exact h.elim
 ·rename_i T x ho;exact Cp ho h
 ·rename_i T x y ho;exact Au ho h
 ·rename_i x ho;exact EX ho h
 ·rename_i op T x y T' ho;exact EK ho h
 ·rename_i op T x ho
  unfold tD at h;split at h
  ·rename_i a hx;exact⟨_,L8 ho hx,h⟩
  ·exact h.elim
 ·rename_i x i ho
  unfold gG at h;split at h
  ·rename_i vs hx
   split at h
   ·exact h.elim
   ·rename_i v hnt hv
    exact⟨_,yh ho hx hv (by cases v<;>first|rfl|exact absurd rfl (hnt _)),h⟩
   ·exact h.elim
  ·exact h.elim
 ·rename_i fn first caps ho
  unfold fv at h;split at h
  ·rename_i f ks hfirst hks
   have:first= #[]:=by rw[← Array.toArray_toList (xs:=first),hfirst]
   subst this;exact⟨_,xR ho (r9 hks),h⟩
  ·exact h.elim
 ·rename_i T x y ho
  unfold cH at h;split at h
  ·rename_i el hel
   obtain⟨td,te,ht,hk,hte,h1,h2,h3,h4,h5,h6⟩:=iR hel;split at h
   ·rename_i k n k' c z0 hx hy hz
    obtain⟨⟨q1,q2,q3,q4⟩,hK⟩:=h;rcases hK with hK|hK|hK
    ·exact⟨_,GK ho ht hk hte h4 h5 h6 hx hy q1 q2 (by rw[h2];exact q3) q4 (by rw[h3];exact hz),hK⟩
    ·have:=uy (C:=C) (L0:=s.L) (opn:=ev s.env) ho ht hk hte h5 h6 hx hy q1 q2 (by rw[h2];exact q3) q4
     rw[h1,h3] at this;exact⟨_,this,hK⟩
    ·exact⟨_,un ho ht hk hte h4 h5 h6 hx hy q1 q2 (by rw[h2];exact q3) q4 (by rw[h3];exact hz),hK⟩
   ·exact h.elim
  ·exact h.elim
 ·rename_i T x lo hi mx ho;exact Ax ho h
 ·rename_i T x f ho;exact rH ho h
 ·rename_i T x f ho;exact B6 ho h
 ·rename_i T x ix ho;exact ru ho h
 ·rename_i T x ix ho
  unfold gV at h;split at h
  ·rename_i td ht
   split at h
   ·rename_i l k i hk hx hix
    obtain⟨⟨q1,q2⟩,hK⟩:=h;exact⟨_,uG ho ht hk hx hix q1 q2,hK⟩
   ·rename_i n e cs k i hk hx hix
    split at h
    ·rename_i te hte
     split at h
     ·rename_i v hv
      obtain⟨⟨q1,q2⟩,hK⟩:=h;exact⟨_,sw ho ht hk hte hx hix q1 q2 hv,hK⟩
     ·exact h.elim
    ·exact h.elim
   ·exact h.elim
  ·exact h.elim
 ·rename_i c ho;exact Di ho h
 ·rename_i T r ho
  unfold kC at h;split at h
  ·rename_i mk hm;exact⟨_,yc ho hm,h⟩
  ·exact h.elim
 ·rename_i T x ix ok ho
  unfold lC at h;split at h
  ·rename_i mk k key hm hx hk
   split at h
   ·rename_i T' vk es hob
    obtain⟨⟨rfl,hok⟩,hK⟩:=h;exact⟨_,BP ho hx hob hm hk hok,hK⟩
   ·exact h.elim
  ·exact h.elim
 ·rename_i T m x v ho
  unfold fO at h;split at h
  ·rename_i mk k key hm hx hk
   split at h
   ·rename_i T' vk es hob
    split at h
    ·rename_i n hv
     obtain⟨⟨rfl,hok⟩,hK⟩:=h;exact⟨_,uu ho hx hob hm hk hok (yF hv),hK⟩
    ·exact h.elim
   ·exact h.elim
  ·exact h.elim
 ·rename_i T m x v ho
  unfold fO at h;split at h
  ·rename_i mk k key hm hx hk
   split at h
   ·rename_i T' vk es hob
    split at h
    ·rename_i n hv
     obtain⟨⟨rfl,hok⟩,hK⟩:=h;exact⟨_,Bc ho hx hob hm hk hok (yF hv),hK⟩
    ·exact h.elim
   ·exact h.elim
  ·exact h.elim
 ·rename_i T x ho
  unfold CU at h;split at h
  ·rename_i td ht
   split at h
   ·rename_i l hk hx;exact⟨_,C5 ho ht hk hx,h⟩
   ·exact h.elim
  ·exact h.elim
 ·rename_i x isS ho
  unfold GY at h;split at h
  ·rename_i k hx
   split at h
   ·rename_i l pos hob;exact⟨_,EN ho hx hob,h⟩
   ·exact h.elim
  ·exact h.elim
 ·rename_i T T' x ho
  unfold eJ at h;split at h
  ·rename_i td td' ht ht'
   split at h
   ·rename_i k' k n hk' hx;obtain⟨hn,hK⟩:=h;exact⟨_,yg ho ht ht' hk' hx hn,hK⟩
   ·rename_i xs hk' hx
    obtain⟨⟨e,te,hk,hte,hke⟩,hK⟩:=h;exact⟨_,ux ho ht hk hte hke ht' hk' hx,hK⟩
   ·exact h.elim
  ·exact h.elim
 ·exact h.elim
end
end Go.AV
