/- Part of the proof. -/
import Derived.Test.YtiedpcchhicifaaGreatDoorLe
set_option linter.unusedSimpArgs false
set_option linter.unusedVariables false
open Go.Result renaming andThen_ok→Ψ
open Go.Sem renaming run_pure→Ω
open Go.Sem renaming run_bind→Φ
open Option.some renaming injEq→Λ
namespace Go.AV
open Go Go.RowKit
def inK (k:IntKind)(n:Int):Prop:=k.min≤n∧n≤k.max
theorem gW (n:Int):inK .i64 n↔-9223372036854775808≤n∧n≤9223372036854775807:=by
 simp[inK,IntKind.min,IntKind.max,IntKind.signed,IntKind.bits]
theorem lL {k:IntKind}{n:Int}(h:inK k n):k.wrap n=n:=by
 unfold inK at h
 cases k<;>simp[IntKind.min,IntKind.max,IntKind.signed,IntKind.bits] at h<;>simp only[IntKind.wrap,IntKind.signed,IntKind.bits,Bool.true_and,Bool.false_and,if_false,Bool.false_eq_true]<;>(try(split<;>rename_i hh<;>simp at hh))<;>(try simp)<;>omega
section
variable {C:Ctx} {L0:List AO} {o:Oper} {opn:Operand→AV}
def Vn (k:IntKind)(x y:Int):Int:=k.wrap (BitVec.ofInt k.bits x &&& BitVec.ofInt k.bits y).toNat
def cZ (op:BinOp)(k:IntKind)(x y:Int):Option (Prop×AV):=
 match op with
 | .add=>some (inK k (x+y),.one (.int k (x+y)))
 | .sub=>some (inK k (x-y),.one (.int k (x-y)))
 | .mul=>some (inK k (x*y),.one (.int k (x*y)))
 | .quo=>some (y≠0∧inK k (x.tdiv y),.one (.int k (x.tdiv y)))
 | .rem=>some (y≠0,.one (.int k (x.tmod y)))
 | .and=>some (True,.one (.int k (Vn k x y)))
 | .shr=>some (0≤y∧y<8,.one (.int k (x / 2^y.toNat)))
 | .eql=>some (True,.one (.bool (decide (x=y))))
 | .neq=>some (True,.one (.bool (!decide (x=y))))
 | .lss=>some (True,.one (.bool (decide (x<y))))
 | .leq=>some (True,.one (.bool (decide (x≤y))))
 | .gtr=>some (True,.one (.bool (decide (y<x))))
 | .geq=>some (True,.one (.bool (decide (y≤x))))
 |_=>none
theorem fN {op:BinOp}{t:TypeId}{x y:Operand}{a b:Value}(ha:(match a with| .nilIface| .agg _=>false|_=>true)=true)(w:World):(eqGuard op t x y a b).run C.P w= .ok () w:=by
 unfold eqGuard
 cases op<;>simp<;>cases a<;>simp_all
theorem E4 {op:BinOp}{T Ty':TypeId}{x y:Operand}{k:IntKind}{a b:Int}{p:Prop}{v:AV}(ho:o.op= .binOp op T x y Ty')(hx':opn x= .one (.int k a))(hy':opn y= .one (.int k b))
 (hr:cZ op k a b=some (p,v)) (hp:p):bG C L0 o opn {av:=v}:=by
 intro L σ w ρ hi hx hfp hlen;have hx1:=hx x (by simp[ho,Op.operands]);have hx2:=hx y (by simp[ho,Op.operands]);rw[hx'] at hx1;rw[hy'] at hx2;have e1:ρ x= .int k a:=hx1.2;have e2:ρ y= .int k b:=hx2.2;have hg:=fN (C:=C) (op:=op) (t:=T) (x:=x) (y:=y) (a:=.int k a) (b:=.int k b) rfl w;simp only[ho,execOp,e1,e2,Φ,hg,Ψ];unfold cZ at hr
 cases op<;>simp only[Λ,Prod.mk.injEq,reduceCtorEq] at hr<;>obtain⟨rfl,rfl⟩:=hr<;>
  simp only[binOp,ne_eq,not_true_eq_false,if_false,Op.intArith,Op.intCmp,Op.intDiv,Op.intBits,Ω,Ψ,bI]
 case and=>exact aZ hi ⟨rfl,rfl⟩
 case shr=>
  have hm:min b.toNat k.bits=b.toNat:=Nat.min_eq_left (by have:=hp.2;cases k<;>simp only[IntKind.bits]<;>omega);simp only[Op.shift,if_neg (show ¬b<0 by omega),hm,Ω,Ψ];rw[Int.fdiv_eq_ediv_of_nonneg _ (by have:(0:Int)<2^b.toNat:=Int.pow_pos δ;omega)];exact aZ hi ⟨rfl,rfl⟩
 case add=>rw[lL hp];exact aZ hi ⟨rfl,rfl⟩
 case sub=>rw[lL hp];exact aZ hi ⟨rfl,rfl⟩
 case mul=>rw[lL hp];exact aZ hi ⟨rfl,rfl⟩
 case quo=>rw[if_neg hp.1];simp only[Ω,Ψ];rw[lL hp.2];exact aZ hi ⟨rfl,rfl⟩
 case rem=>rw[if_neg hp];simp only[Ω,Ψ];exact aZ hi ⟨rfl,rfl⟩
 case eql=>exact aZ hi ⟨rfl,rfl⟩
 case neq=>exact aZ hi ⟨rfl,rfl⟩
 case lss=>exact aZ hi ⟨rfl,rfl⟩
 case leq=>exact aZ hi ⟨rfl,rfl⟩
 case gtr=>exact aZ hi ⟨rfl,rfl⟩
 case geq=>exact aZ hi ⟨rfl,rfl⟩
theorem qR {T Ty':TypeId}{td:TD}{x y:Operand}{a b:Bool}{neg:Bool}(ho:o.op= .binOp (if neg then .neq else .eql) T x y Ty')(ht:aN C.P T=some td)(hk:td.k= .bool)(hx':opn x= .one (.bool a))(hy':opn y= .one (.bool b)):
 bG C L0 o opn {av:=.one (.bool (if neg then !decide (a=b) else decide (a=b)))}:=by
 intro L σ w ρ hi hx hfp hlen;have hx1:=hx x (by simp[ho,Op.operands]);have hx2:=hx y (by simp[ho,Op.operands]);rw[hx'] at hx1;rw[hy'] at hx2;have e1:ρ x= .bool a:=hx1.2;have e2:ρ y= .bool b:=hx2.2;have hg:=fN (C:=C) (op:=if neg then .neq else .eql) (t:=T) (x:=x) (y:=y) (a:=.bool a) (b:=.bool b) rfl w;have hu:C.P.underlying T=some .bool:=by
  obtain⟨d,hd,hkd,hu⟩:=bS ht w;rw[hk] at hkd;have:d= .bool:=by cases d<;>simp[kf] at hkd;rfl
  rw[hu,this]
 have he:(Op.equal T (.bool a) (.bool b)).run C.P w= .ok (decide (a=b)) w:=by
  rw[run_equal_bool w T a b hu]
  cases a<;>cases b<;>rfl
 simp only[ho,execOp,e1,e2,Φ,hg,Ψ]
 cases neg
 ·simp only[Bool.false_eq_true,if_false,binOp,Φ,he,Ψ,Ω,bI]
  exact aZ hi ⟨rfl,rfl⟩
 ·simp only[if_true,binOp,Φ,he,Ψ,Ω,bI]
  exact aZ hi ⟨rfl,rfl⟩
def gk (op:BinOp)(a b:List UInt8):Option (Prop×AC):=
 match op with
 | .add=>some (List.length a+List.length b≤9223372036854775807,.str (a++b))
 | .eql=>some (True,.bool (decide (a=b)))
 | .neq=>some (True,.bool (!decide (a=b)))
 |_=>none
theorem DS (a b:List UInt8):(a == b)=decide (a=b):=by by_cases h:a=b<;>simp[h]
theorem pg (l:List UInt8):(⟨l.toArray⟩:ByteArray).toList=l:=by rw[ByteArray.toList_eq]
theorem Ka {op:BinOp}{T Ty':TypeId}{x y:Operand}{a b:List UInt8}{p:Prop}{c:AC}(ho:o.op= .binOp op T x y Ty')(hx':opn x= .one (.str a))(hy':opn y= .one (.str b))(hs:gk op a b=some (p,c))(hp:p):
 bG C L0 o opn {av:=.one c}:=by
 intro L σ w ρ hi hx hfp hlen;have hx1:=hx x (by simp[ho,Op.operands]);have hx2:=hx y (by simp[ho,Op.operands]);rw[hx'] at hx1;rw[hy'] at hx2;have e1:ρ x= .string ⟨a.toArray⟩:=hx1.2;have e2:ρ y= .string ⟨b.toArray⟩:=hx2.2;have hg:=fN (C:=C) (op:=op) (t:=T) (x:=x) (y:=y) (a:=.string ⟨a.toArray⟩) (b:=.string ⟨b.toArray⟩) rfl w;simp only[ho,execOp,e1,e2,Φ,hg,Ψ]
 cases op<;>simp only[gk,Λ,Prod.mk.injEq,reduceCtorEq] at hs
 case add=>
  obtain⟨rfl,rfl⟩:=hs;have hsz:¬(((⟨a.toArray⟩:ByteArray).size+(⟨b.toArray⟩:ByteArray).size:Nat):Int)>IntKind.i64.max:=by
   have:(IntKind.i64.max:Int)=9223372036854775807:=δ;rw[this];simp only[ByteArray.size,List.size_toArray];omega
  have hap:((⟨a.toArray⟩:ByteArray)++⟨b.toArray⟩)=⟨(a++b).toArray⟩:=by
   apply ByteArray.ext;rw[ByteArray.data_append];simp
  simp only[binOp,Op.stringOp,hsz,if_false,hap,Ω,bI];exact aZ hi ⟨rfl,rfl⟩
 case eql=>
  obtain⟨rfl,rfl⟩:=hs;simp only[binOp,Op.stringOp,pg,DS,Ω,bI];exact aZ hi ⟨rfl,rfl⟩
 case neq=>
  obtain⟨rfl,rfl⟩:=hs;simp only[binOp,Op.stringOp,pg,DS,Ω,bI];exact aZ hi ⟨rfl,rfl⟩
theorem yg {T T':TypeId}{td td':TD}{x:Operand}{k k':IntKind}{n:Int}(ho:o.op= .convert T T' x)(ht:aN C.P T=some td)(ht':aN C.P T'=some td')(hk':td'.k= .int k')(hx':opn x= .one (.int k n))(hn:inK k' n):
 bG C L0 o opn {av:=.one (.int k' n)}:=by
 intro L σ w ρ hi hx hfp hlen;have hx1:=hx x (by simp[ho,Op.operands]);rw[hx'] at hx1;have e1:ρ x= .int k n:=hx1.2;obtain⟨d,hd,hkd,hu⟩:=bS ht w;obtain⟨d',hd',hkd',hu'⟩:=bS ht' w;rw[hk'] at hkd';have:d'= .int k':=by cases d'<;>simp[kf] at hkd';rw[hkd']
 subst this;simp only[ho,execOp,e1,convert,Φ,hd,hd',Ψ,Conv.intToInt,lL hn,Ω,bI];exact aZ hi ⟨rfl,rfl⟩
theorem Qh {P:Program}(w:World)(d:Nat)(t e:TypeId)(a:Option Addr)(l c:Nat)(h:P.underlying t=some (.slice e)):(Op.equalIn (d+1) t (.slice a l c) (.slice none 0 0)).run P w= .ok a.isNone w:=by
 cases a<;>simp[Op.equalIn,run_underlying h]
theorem FE {P:Program}(w:World)(t e:TypeId)(a:Option Addr)(l c:Nat)(h:P.underlying t=some (.slice e)):(Op.equal t (.slice a l c) (.slice none 0 0)).run P w= .ok a.isNone w:=Qh w 9999 t e a l c h
theorem iy {T Ty' e:TypeId}{td:TD}{x y:Operand}{c:AC}{b:Bool}{neg:Bool}(ho:o.op= .binOp (if neg then .neq else .eql) T x y Ty')(ht:aN C.P T=some td)(hk:td.k= .slice e)(hx':opn x= .one c)(hy':opn y= .one .nils)
 (hc:(c= .nils∧b=true)∨(c= .emp∧b=false)∨(∃ t xs,c= .list t xs∧0<List.length xs∧b=false)):
 bG C L0 o opn {av:=.one (.bool (if neg then !b else b))}:=by
 intro L σ w ρ hi hx hfp hlen;have hx1:=hx x (by simp[ho,Op.operands]);have hx2:=hx y (by simp[ho,Op.operands]);rw[hx'] at hx1;rw[hy'] at hx2;have e2:ρ y= .slice none 0 0:=hx2.2;have hu:C.P.underlying T=some (.slice e):=by
  obtain⟨d,hd,hkd,hu⟩:=bS ht w;rw[hk] at hkd;have:=bW hkd;rw[hu,this]
 have he:(∃ A n cc,ρ x= .slice A n cc)∧(Op.equal T (ρ x) (ρ y)).run C.P w= .ok b w:=by
  rcases hc with⟨rfl,rfl⟩|⟨rfl,rfl⟩|⟨t,xs,rfl,h0,rfl⟩
  ·have e1:ρ x= .slice none 0 0:=hx1.2
   exact⟨⟨_,_,_,e1⟩,by rw[e1,e2,FE w T e _ _ _ hu];rfl⟩
  ·obtain⟨a,cc,e1,_⟩:=hx1.2
   exact⟨⟨_,_,_,e1⟩,by rw[e1,e2,FE w T e _ _ _ hu];rfl⟩
  ·obtain⟨A,cc,e1,_,_,h3⟩:=hx1.2
   simp only[List.cons.injEq,and_true] at e1;obtain⟨b',o',rfl,_⟩:=h3 h0;exact⟨⟨_,_,_,e1⟩,by rw[e1,e2,FE w T e _ _ _ hu];rfl⟩
 obtain⟨⟨A,n,cc,e1⟩,he⟩:=he;rw[e1,e2] at he;have hg:=fN (C:=C) (op:=if neg then .neq else .eql) (t:=T) (x:=x) (y:=y) (a:=.slice A n cc) (b:=.slice none 0 0) rfl w;simp only[ho,execOp,e1,e2,Φ,hg,Ψ]
 cases neg
 ·simp only[Bool.false_eq_true,if_false,binOp,Φ,he,Ψ,Ω,bI]
  exact aZ hi ⟨rfl,rfl⟩
 ·simp only[if_true,binOp,Φ,he,Ψ,Ω,bI]
  exact aZ hi ⟨rfl,rfl⟩
theorem L8 {T:TypeId}{x:Operand}{a:Bool}(ho:o.op= .unOp .not T x)(hx':opn x= .one (.bool a)):bG C L0 o opn {av:=.one (.bool (!a))}:=by
 intro L σ w ρ hi hx hfp hlen;have hx1:=hx x (by simp[ho,Op.operands]);rw[hx'] at hx1;have e1:ρ x= .bool a:=hx1.2;simp only[ho,execOp,e1,Op.unary,Φ,Ω,Ψ,bI];exact aZ hi ⟨rfl,rfl⟩
theorem yh {x:Operand}{i:Nat}{vs:List AV}{v:AV}(ho:o.op= .extract x i)(hx':opn x= .tup vs)(hv:vs[i]? =some v)(hnt:(match v with| .tup _=>false|_=>true)=true):bG C L0 o opn {av:=v}:=by
 intro L σ w ρ hi hx hfp hlen;have hx1:=hx x (by simp[ho,Op.operands]);rw[hx'] at hx1;obtain⟨us,e,ha⟩:=(hx1:RV C L σ w (.tup vs) (ρ x))
 obtain⟨u,hu,hr⟩:=ha.at_ hv;simp only[ho,execOp,e,Instr.extract,List.getElem?_toArray,hu,Φ,Ω,Ψ,bI];refine aZ hi ?_
 cases v<;>first|exact hr|(simp at hnt)
def dG:Cap→AV
 | .ref k=>.one (.ptr k 0 0 0)
 | .pat t d=>.one (.pat t d 0)
 | .pfn f ds=>.one (.pfn f ds)
theorem yG {L:List AO}{σ:Sig}{w:World}{c:Cap}{u:Value}:RV C L σ w (dG c) u↔qP C L σ w c u:=by
 cases c<;>exact Iff.rfl
theorem xR {f:FuncId}{caps:Array Operand}{ks:List Cap}(ho:o.op= .makeFunc (.func f) #[] caps)(hc:caps.toList.map opn=ks.map dG):bG C L0 o opn {av:=.one (.fn f ks)}:=by
 intro L σ w ρ hi hx hfp hlen;have h1:∀ (l:List Operand) (ks:List Cap),(∀ x,x∈l→RV C L σ w (opn x) (ρ x))→l.map opn=ks.map dG→bv (qP C L σ w) ks (l.map ρ):=by
  intro l
  induction l with
  |nil=>intro ks _ h;cases ks with|nil=>trivial|cons _ _=>cases h
  |cons x l ih=>
   intro ks hr h
   cases ks with
   |nil=>cases h
   |cons k ks=>
    simp only[List.map_cons,List.cons.injEq] at h;refine⟨?_,ih ks (λy hy=>hr y (List.mem_cons_of_mem _ hy)) h.2⟩;have:=hr x (List.mem_cons_self ..);rw[h.1] at this;exact yG.1 this
 simp only[ho,execOp,Instr.makeFunc,List.map_toArray,List.map_nil,Φ,Ω,Ψ,bI];refine aZ hi ⟨rfl,caps.toList.map ρ,?_,h1 _ _ (λx hxm=>hx x (by simp[ho,Op.operands];exact Array.mem_toList_iff.1 hxm)) hc⟩
 congr 1
 apply Array.ext';simp
theorem Dj {T ft:TypeId}{td tf:TD}{x:Operand}{fs:List (Nat×TypeId×Nat)}{f off sz:Nat}{cs:List AC}{v:AV}(ho:o.op= .field T x f)(ht:aN C.P T=some td)(hk:td.k= .struct fs)
 (hf:fs[f]? =some (off,ft,sz)) (htf:aN C.P ft=some tf) (hx':opn x= .agg cs) (hr:bZ tf cs off=some v):bG C L0 o opn {av:=v}:=by
 intro L σ w ρ hi hx hfp hlen;have hx1:=hx x (by simp[ho,Op.operands]);rw[hx'] at hx1;obtain⟨vs,e,ha⟩:=(hx1:RV1 C L σ w (.agg cs) (ρ x))
 obtain⟨d,hd,hkd,hu⟩:=bS ht w;rw[hk] at hkd;obtain⟨gs,rfl,hgs⟩:=pV hkd;have hg:∃ g,gs[f]? =some g∧g.offset=off∧g.type=ft:=by
  rw[← hgs,List.getElem?_map] at hf
  cases hgf:gs.toList[f]? with
  |none=>rw[hgf] at hf;cases hf
  |some g=>
   rw[hgf] at hf;simp only[Option.map_some,Λ,Prod.mk.injEq] at hf;exact⟨g,by simpa using hgf,hf.1,hf.2.1⟩
 obtain⟨g,h1,h2,h3⟩:=hg;subst h2 h3;unfold bZ at hr;have hrun:∃ u,(Instr.field T (.agg vs.toArray) f).run C.P w= .ok u w∧RV C L σ w v u:=by
  simp only[Instr.field,Φ,hd,Ψ,h1,asAgg,Ω,part,mE htf w];split at hr
  ·rename_i hka
   split at hr
   ·rename_i hsz
    simp only[Λ] at hr;subst hr;simp only[hka,if_true,Φ,bT htf w,Ψ,Ω];refine⟨_,rfl,(vs.drop g.offset).take tf.size,?_,(ha.drop _).take _⟩;rw[List.extract_toArray,List.extract_eq_take_drop];simp
   ·cases hr
  ·rename_i hka
   split at hr
   ·rename_i c hc
    simp only[Λ] at hr;subst hr;obtain⟨u,hu,hrc⟩:=ha.at_ hc;simp only[hka,Bool.false_eq_true,if_false,List.getElem?_toArray,hu,Ω];exact⟨u,rfl,hrc⟩
   ·cases hr
 obtain⟨u,h4,h5⟩:=hrun;simp only[ho,execOp,e,Φ,h4,Ψ,Ω,bI];exact aZ hi h5
theorem sw {T e:TypeId}{td te:TD}{x ix:Operand}{n:Nat}{cs:List AC}{k:IntKind}{i:Int}{v:AV}(ho:o.op= .index T x ix)(ht:aN C.P T=some td)(hk:td.k= .array n e)(hte:aN C.P e=some te)
 (hx':opn x= .agg cs) (hi':opn ix= .one (.int k i)) (h0:0≤i) (h1:i<n) (hr:bZ te cs (i.toNat*te.size)=some v):bG C L0 o opn {av:=v}:=by
 intro L σ w ρ hi hx hfp hlen;have hx1:=hx x (by simp[ho,Op.operands]);have hx2:=hx ix (by simp[ho,Op.operands]);rw[hx'] at hx1;rw[hi'] at hx2;have e2:ρ ix= .int k i:=hx2.2;obtain⟨vs,e,ha⟩:=(hx1:RV1 C L σ w (.agg cs) (ρ x))
 obtain⟨d,hd,hkd,hu⟩:=bS ht w;rw[hk] at hkd;have:=lK hkd;subst this;unfold bZ at hr;have hrun:∃ u,(Instr.index T (.agg vs.toArray) (.int k i)).run C.P w= .ok u w∧RV C L σ w v u:=by
  have hif:(0≤i∧i<(n:Int)):=⟨h0,h1⟩
  simp only[Instr.index,asIntOf,Φ,Ω,hd,Ψ,hif,and_self,if_true,bT hte w,part,mE hte w];split at hr
  ·rename_i hka
   split at hr
   ·rename_i hsz
    simp only[Λ] at hr;subst hr;simp only[hka,if_true,Φ,bT hte w,Ψ,Ω];refine⟨_,rfl,(vs.drop (i.toNat*te.size)).take te.size,?_,(ha.drop _).take _⟩;rw[List.extract_toArray,List.extract_eq_take_drop];simp
   ·cases hr
  ·rename_i hka
   split at hr
   ·rename_i c hc
    simp only[Λ] at hr;subst hr;obtain⟨u,hu,hrc⟩:=ha.at_ hc;simp only[hka,Bool.false_eq_true,if_false,List.getElem?_toArray,hu,Ω];exact⟨u,rfl,hrc⟩
   ·cases hr
 obtain⟨u,h4,h5⟩:=hrun;simp only[ho,execOp,e,e2,Φ,h4,Ψ,Ω,bI];exact aZ hi h5
theorem uG {T:TypeId}{td:TD}{x ix:Operand}{s:List UInt8}{k:IntKind}{i:Int}(ho:o.op= .index T x ix)(ht:aN C.P T=some td)(hk:td.k= .str)
 (hx':opn x= .one (.str s)) (hi':opn ix= .one (.int k i)) (h0:0≤i) (h1:i<s.length):bG C L0 o opn {av:=.one (.int .u8 ((s.getD i.toNat 0).toNat:Int))}:=by
 intro L σ w ρ hi hx hfp hlen;have hx1:=hx x (by simp[ho,Op.operands]);have hx2:=hx ix (by simp[ho,Op.operands]);rw[hx'] at hx1;rw[hi'] at hx2;have e1:ρ x= .string ⟨s.toArray⟩:=hx1.2;have e2:ρ ix= .int k i:=hx2.2;obtain⟨d,hd,hkd,hu⟩:=bS ht w;rw[hk] at hkd;have:=qd hkd;subst this;have hlt:i.toNat<s.length:=ω;have hget:(⟨s.toArray⟩:ByteArray)[i.toNat]? =some (s.getD i.toNat 0):=by
  have hsz:i.toNat<(⟨s.toArray⟩:ByteArray).size:=by simpa [ByteArray.size] using hlt
  rw[getElem?_pos (⟨s.toArray⟩:ByteArray) i.toNat hsz]
  congr 1
  simp[List.getD,hlt]
  rfl
 simp only[ho,execOp,e1,e2,Instr.index,asIntOf,Φ,Ω,hd,Ψ,h0,if_true,hget,bI];exact aZ hi ⟨rfl,rfl⟩
def cY (L:List AO):AC→Option Nat
 | .list _ xs=>some (List.length xs)
 | .nils=>some 0
 | .emp=>some 0
 | .str s=>some s.length
 | .row k ver=>match L[k]? with
   |some (.row _ _ v xs)=>if ver=v then some xs.length else none
   |_=>none
 | .rwc k ver=>match L[k]? with
   |some (.rowc _ sz v cs)=>if ver=v then some (cs.length / sz) else none
   |_=>none
 |_=>none
def dC:KD→AC→Bool
 | .slice _,.str _=>false
 | .slice _,_=>true
 | .str,.str _=>true
 |_,_=>false
def fa:AC→List Nat
 | .row k _=>[k]
 | .rwc k _=>[k]
 |_=>[]
theorem Lg {T:TypeId}{td:TD}{x:Operand}{ats:Array TypeId}{c:AC}{n:Nat}(ho:o.op= .call {callee:=.builtin .len,args:=#[x],argTypes:=ats})(ha:ats[0]? =some T)(ht:aN C.P T=some td)
 (hk:dC td.k c=true) (hx':opn x= .one c) (hn:cY L0 c=some n):bG C L0 o opn {av:=.one (.int .i64 n),fp:=fa c}:=by
 intro L σ w ρ hi hx hfp hlen;have hx1:=hx x (by simp[ho,Op.operands,Call.operands]);rw[hx'] at hx1;obtain⟨d,hd,hkd,hu⟩:=bS ht w;have hrun:(Builtin.len_ ats o.type #[ρ x]).run C.P w= .ok (.int .i64 n) w:=by
  cases c with
  |str s=>
   have e1:ρ x= .string ⟨s.toArray⟩:=hx1.2;have hks:td.k= .str:=by revert hk;cases td.k<;>simp[dC]
   rw[hks] at hkd;have:=qd hkd;subst this;simp only[cY,Λ] at hn;subst hn;have hsz:(⟨s.toArray⟩:ByteArray).size=s.length:=rfl;simp[Builtin.len_,ha,hd,e1,goInt,hsz]
  |list t xs=>
   have hks:∃ e,td.k= .slice e:=by revert hk;cases td.k<;>simp[dC]
   obtain⟨e,hks⟩:=hks;rw[hks] at hkd;have:=bW hkd;subst this;obtain⟨A,cc,e1,_⟩:=hx1.2;simp only[List.cons.injEq,and_true] at e1;simp only[cY,Λ] at hn;subst hn;simp[Builtin.len_,ha,hd,e1,goInt]
  |nils=>
   have hks:∃ e,td.k= .slice e:=by revert hk;cases td.k<;>simp[dC]
   obtain⟨e,hks⟩:=hks;rw[hks] at hkd;have:=bW hkd;subst this;have e1:ρ x= .slice none 0 0:=hx1.2;simp only[cY,Λ] at hn;subst hn;simp[Builtin.len_,ha,hd,e1,goInt]
  |emp=>
   have hks:∃ e,td.k= .slice e:=by revert hk;cases td.k<;>simp[dC]
   obtain⟨e,hks⟩:=hks;rw[hks] at hkd;have:=bW hkd;subst this;obtain⟨A,cc,e1,_⟩:=hx1.2;simp only[cY,Λ] at hn;subst hn;simp[Builtin.len_,ha,hd,e1,goInt]
  |row k ver=>
   have hks:∃ e,td.k= .slice e:=by revert hk;cases td.k<;>simp[dC]
   obtain⟨e,hks⟩:=hks;rw[hks] at hkd;have:=bW hkd;subst this;simp only[cY] at hn;split at hn
   ·rename_i t' e' v xs hob
    split at hn
    ·rename_i hv
     simp only[Λ] at hn;subst hn hv;have hob':L[k]? =some (.row t' e' ver xs):=by rw[hfp k (by simp[fa])];exact hob
     obtain⟨ob,h2,h3,h4⟩:=hx1.2;rw[hob'] at h2;cases h2;obtain⟨_,e1⟩:=h4 rfl rfl;obtain⟨flat,h5,h6,h7⟩:=hi.ob k _ hob';rcases h5.2 with⟨e2,h8⟩|⟨g,cap,cur,e2,_⟩
     ·simp[Builtin.len_,ha,hd,e1,e2,goInt,h8]
     ·simp[Builtin.len_,ha,hd,e1,e2,goInt]
    ·cases hn
   ·cases hn
  |rwc k ver=>
   have hks:∃ e,td.k= .slice e:=by revert hk;cases td.k<;>simp[dC]
   obtain⟨e,hks⟩:=hks;rw[hks] at hkd;have:=bW hkd;subst this;simp only[cY] at hn;split at hn
   ·rename_i e' sz v cs hob
    split at hn
    ·rename_i hv
     simp only[Λ] at hn;subst hn hv;have hob':L[k]? =some (.rowc e' sz ver cs):=by rw[hfp k (by simp[fa])];exact hob
     obtain⟨ob,h2,h3,h4⟩:=hx1.2;rw[hob'] at h2;cases h2;obtain⟨_,e1⟩:=h4 rfl rfl;obtain⟨flat,n',h5,h6,h7,h8⟩:=hi.ob k _ hob';have hdv:cs.length / sz=n':=by rw[h7];exact Nat.mul_div_cancel _ h6
     rw[hdv];rcases h5.2 with⟨e2,h8⟩|⟨g,cap,cur,e2,_⟩
     ·simp[Builtin.len_,ha,hd,e1,e2,goInt,h8]
     ·simp[Builtin.len_,ha,hd,e1,e2,goInt]
    ·cases hn
   ·cases hn
  |_=>simp[cY] at hn
 simp only[ho,execOp,resolve,invoke,builtin,Φ,Ω,Ψ,List.map_toArray,List.map_cons,List.map_nil,hrun,bI];exact aZ hi ⟨rfl,rfl⟩
end
end Go.AV
