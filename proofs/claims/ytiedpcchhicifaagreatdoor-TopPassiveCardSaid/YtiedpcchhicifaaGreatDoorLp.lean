/- Part of the proof. -/
import Derived.Test.YtiedpcchhicifaaGreatDoorLo
set_option linter.unusedSimpArgs false
set_option linter.unusedVariables false
namespace Go.AV
open Go Go.RowKit
section
variable {P:Program} {ops rest:List Oper} {o:Oper} {s:St} {tr:Tr} {K:St→Tr→Prop}
def bo {c:Call}{g:Operand}{f:FuncId}{caps:List Cap}{args:List AV}{out:Out}{K':Out→Prop}(ho:o.op= .call c)(hc:c.callee= .value g)(hf:ev s.env g= .one (.fn f caps))
 (ha:c.args.toList.map (ev s.env)++caps.map dY=args) (h:cS P s.L f args out) (hK:K' out):op1 P s o K':=by
 simp only[op1,ho,cD,hc,AN,hf];exact⟨out,by rw[ha];exact h,hK⟩
end
def bh (b y:Bool):(if b=false then y else !false)=(b||y):=by cases b<;>simp
def aX (b y:Bool):(if b=true then y else !true)=(b&&y):=by cases b<;>simp
def Fy {P:Program}{ops l rest:List Oper}{s:St}{tr:Tr}{K:St→Tr→Prop}{m r:Nat}{want b y:Bool}{tr1:Tr}{po:Oper}(n:Nat)(hl:l.drop n=po::rest)(hb:lkp s.env m= .one (.bool b))
 (hsk:oT ops m want [] (l.take n)=true) (hkeys:Ap s.env (l.take n++[po])=true) (hpd:po.dst=some r) (hpg:gval ops s.env po=some true) {cx cy:Operand} (hpo:po.op= .pick (.tmp m) cx cy)
 (hconst:(if want then cy else cx)= .const (.bool !want))
 (h1:b=want→RG P ops (l.take n++[po]) {env:=(m,.one (.bool want))::s.env,L:=s.L} tr λs' tr'=>lkp s'.env r= .one (.bool y)∧s'.L=s.L∧(∀ k,fC s.env k=true→lkp s.env k=lkp s'.env k)∧tr'=tr1)
 (htr:TLE (tr++List.replicate ((l.take n).length+1) ([],[],0)) tr1)
 (h2:RG P ops rest {env:=(r,.one (.bool (if b=want then y else !want)))::s.env,L:=s.L} tr1 K):RG P ops l s tr K:=by
 have e:l=l.take n++po::rest:=by rw[← hl,List.take_append_drop]
 rw[e];exact Nf (l.take n) po hb hsk hkeys hpd hpg hpo hconst h1 htr h2
def EO {env env':Env}{k0:Nat}{v:AV}(h0:fC env k0=false)(h:∀ k,fC env k=true→lkp env k=lkp env' k):∀ k,fC env k=true→lkp env k=lkp ((k0,v)::env') k:=by
 intro k hk;simp only[lkp];rw[if_neg (λe=>by rw[e,h0] at hk;cases hk)];exact h k hk
def Qf {env:Env}{m:Nat}{b want:Bool}(hb:lkp env m= .one (.bool b))(hw:b=want):∀ k,fC env k=true→lkp env k=lkp ((m,.one (.bool want))::env) k:=by
 intro k _;simp only[lkp];split
 ·rename_i e;rw[e,hb,hw]
 ·rfl
def HT:Tr→Tr→Bool
 |[],[]=>true
 |a::r,b::r'=>(a.1.all λx=>b.1.contains x)&&(a.2.1.all λx=>b.2.1.contains x)&&decide (a.2.2≤b.2.2)&&HT r r'
 |_,_=>false
theorem Il:∀ {a b:Tr},HT a b=true→TLE a b
 |[],[],_=>trivial
 |a::r,b::r',h=>by
  simp only[HT,Bool.and_eq_true,decide_eq_true_eq] at h;obtain⟨⟨⟨h1,h2⟩,h3⟩,h4⟩:=h;refine⟨⟨λx hx=>?_,λx hx=>?_,h3⟩,Il h4⟩
  ·have:=List.all_eq_true.1 h1 x hx;simpa using this
  ·have:=List.all_eq_true.1 h2 x hx;simpa using this
 |[],_::_,h=>by cases h
 |_::_,[],h=>by cases h
def cw (env:Env):List Nat→Env
 |[]=>[]
 |k::r=>(k,lkp env k)::cw env r
theorem rh (env:Env)(t:Nat):∀ ks:List Nat,lkp (cw env ks) t= .undef∨lkp (cw env ks) t=lkp env t
 |[]=>.inl rfl
 |k::r=>by
  simp only[cw,lkp]
  by_cases e:t=k
  ·rw[if_pos e,e];exact .inr rfl
  ·rw[if_neg e];exact rh env t r
def cO {C:Ctx}{c:Code}{Q:Exit→St→Prop}{s:St}(ks:List Nat)(h:AWP C c Q {env:=cw s.env ks,L:=s.L}):AWP C c Q s:=
 P1 h ⟨λt=>rh s.env t ks,rfl⟩
def ar {s:St}(ks:List Nat):SUB {env:=cw s.env ks,L:=s.L} s:=⟨λt=>rh s.env t ks,rfl⟩
def am {C:Ctx}{Q:Exit→St→Prop}{s:St}{P:Program}{N id:Nat}{l:List Oper}(hP:C.P=P)(hN:C.N=N)(hd:dx N l=true)(h:RG P l l s [] λs' _=>Q .normal s'):AWP C (.region id l.toArray false) Q s:=by
 subst hP hN;exact tz hd h
def bu {C:Ctx}{Q:Exit→St→Prop}{s:St}{P:Program}{N id:Nat}{l:List Oper}(hP:C.P=P)(hN:C.N=N)(hm:P.follows .mixedOrders=true)(hd:dx N l=true)(h:RG P l l s [] λs' tr=>mv l tr=true∧Q .normal s'):AWP C (.region id l.toArray true) Q s:=by
 subst hP hN;exact yn hm hd h
end Go.AV
