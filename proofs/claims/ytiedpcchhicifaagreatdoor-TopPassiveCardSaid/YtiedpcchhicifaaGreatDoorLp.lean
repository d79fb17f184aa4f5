/- Part of the proof. -/
import Derived.Test.YtiedpcchhicifaaGreatDoorLo
set_option linter.unusedSimpArgs false
set_option linter.unusedVariables false
namespace Go.AV
open Go Go.RowKit
section
variable {P:Program} {ops rest:List Oper} {o:Oper} {s:St} {tr:Tr} {K:St→Tr→Prop}
theorem bo {c:Call}{g:Operand}{f:FuncId}{caps:List Cap}{args:List AV}{out:Out}{K':Out→Prop}(ho:o.op= .call c)(hc:c.callee= .value g)(hf:ev s.env g= .one (.fn f caps))
 (ha:c.args.toList.map (ev s.env)++caps.map dG=args) (h:cS P s.L f args out) (hK:K' out):op1 P s o K':=by
 simp only[op1,ho,cC,hc,Bw,hf];exact⟨out,by rw[ha];exact h,hK⟩
end
theorem bh (b y:Bool):(if b=false then y else !false)=(b||y):=by cases b<;>simp
theorem aX (b y:Bool):(if b=true then y else !true)=(b&&y):=by cases b<;>simp
theorem FX {P:Program}{ops l rest:List Oper}{s:St}{tr:Tr}{K:St→Tr→Prop}{m r:Nat}{want b y:Bool}{tr1:Tr}{po:Oper}(n:Nat)(hl:l.drop n=po::rest)(hb:lkp s.env m= .one (.bool b))
 (hsk:p9 ops m want [] (l.take n)=true) (hkeys:AJ s.env (l.take n++[po])=true) (hpd:po.dst=some r) (hpg:gval ops s.env po=some true) {cx cy:Operand} (hpo:po.op= .pick (.tmp m) cx cy)
 (hconst:(if want then cy else cx)= .const (.bool !want))
 (h1:b=want→RG P ops (l.take n++[po]) {env:=(m,.one (.bool want))::s.env,L:=s.L} tr λs' tr'=>lkp s'.env r= .one (.bool y)∧s'.L=s.L∧(∀ k,fE s.env k=true→lkp s.env k=lkp s'.env k)∧tr'=tr1)
 (htr:TLE (tr++List.replicate ((l.take n).length+1) ([],[],0)) tr1)
 (h2:RG P ops rest {env:=(r,.one (.bool (if b=want then y else !want)))::s.env,L:=s.L} tr1 K):RG P ops l s tr K:=by
 have e:l=l.take n++po::rest:=by rw[← hl,List.take_append_drop]
 rw[e];exact Nl (l.take n) po hb hsk hkeys hpd hpg hpo hconst h1 htr h2
theorem FT {env env':Env}{k0:Nat}{v:AV}(h0:fE env k0=false)(h:∀ k,fE env k=true→lkp env k=lkp env' k):∀ k,fE env k=true→lkp env k=lkp ((k0,v)::env') k:=by
 intro k hk;simp only[lkp];rw[if_neg (λe=>by rw[e,h0] at hk;cases hk)];exact h k hk
theorem Ro {env:Env}{m:Nat}{b want:Bool}(hb:lkp env m= .one (.bool b))(hw:b=want):∀ k,fE env k=true→lkp env k=lkp ((m,.one (.bool want))::env) k:=by
 intro k _;simp only[lkp];split
 ·rename_i e;rw[e,hb,hw]
 ·rfl
def HL:Tr→Tr→Bool
 |[],[]=>true
 |a::r,b::r'=>(a.1.all λx=>b.1.contains x)&&(a.2.1.all λx=>b.2.1.contains x)&&decide (a.2.2≤b.2.2)&&HL r r'
 |_,_=>false
theorem JR:∀ {a b:Tr},HL a b=true→TLE a b
 |[],[],_=>trivial
 |a::r,b::r',h=>by
  simp only[HL,Bool.and_eq_true,decide_eq_true_eq] at h;obtain⟨⟨⟨h1,h2⟩,h3⟩,h4⟩:=h;refine⟨⟨λx hx=>?_,λx hx=>?_,h3⟩,JR h4⟩
  ·have:=List.all_eq_true.1 h1 x hx;simpa using this
  ·have:=List.all_eq_true.1 h2 x hx;simpa using this
 |[],_::_,h=>by cases h
 |_::_,[],h=>by cases h
def dh (env:Env):List Nat→Env
 |[]=>[]
 |k::r=>(k,lkp env k)::dh env r
theorem se (env:Env)(t:Nat):∀ ks:List Nat,lkp (dh env ks) t= .undef∨lkp (dh env ks) t=lkp env t
 |[]=>.inl rfl
 |k::r=>by
  simp only[dh,lkp]
  by_cases e:t=k
  ·rw[if_pos e,e];exact .inr rfl
  ·rw[if_neg e];exact se env t r
theorem fJ {C:Ctx}{c:Code}{Q:Exit→St→Prop}{s:St}(ks:List Nat)(h:AWP C c Q {env:=dh s.env ks,L:=s.L}):AWP C c Q s:=
 PY h ⟨λt=>se s.env t ks,rfl⟩
theorem ar {s:St}(ks:List Nat):SUB {env:=dh s.env ks,L:=s.L} s:=⟨λt=>se s.env t ks,rfl⟩
theorem am {C:Ctx}{Q:Exit→St→Prop}{s:St}{P:Program}{N id:Nat}{l:List Oper}(hP:C.P=P)(hN:C.N=N)(hd:dB N l=true)(h:RG P l l s [] λs' _=>Q .normal s'):AWP C (.region id l.toArray false) Q s:=by
 subst hP hN;exact ui hd h
theorem bz {C:Ctx}{Q:Exit→St→Prop}{s:St}{P:Program}{N id:Nat}{l:List Oper}(hP:C.P=P)(hN:C.N=N)(hm:P.follows .mixedOrders=true)(hd:dB N l=true)(h:RG P l l s [] λs' tr=>mK l tr=true∧Q .normal s'):AWP C (.region id l.toArray true) Q s:=by
 subst hP hN;exact zl hm hd h
end Go.AV
