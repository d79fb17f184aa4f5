/- Part of the proof. -/
import Derived.Test.YtiedpcchhicifaaGreatDoorLv
set_option linter.unusedSimpArgs false
set_option linter.unusedVariables false
namespace Go.AV
theorem zE:(∀ {α:Type} {_:Decidable True} (t:True→α) (e:¬True→α),dite True t e=t trivial)∧
 (∀ {α:Type} {_:Decidable True} (a b:α),ite True a b=a)∧
 (∀ {α:Type} {_:Decidable False} (a b:α),ite False a b=b)∧
 (∀ {α:Type} (a:α) (l:List α),(a::l).length=l.length+1)∧
 (∀ {α:Type},([]:List α).length=0)∧
 (∀ {α:Type} (n:Nat) (a:α) (l:List α),(a::l).take (n+1)=a::l.take n)∧
 (∀ {α:Type} (l:List α),l.take 0=[])∧
 (∀ {α:Type} (n:Nat) (a:α) (l:List α),(a::l).drop (n+1)=l.drop n)∧
 (∀ {α:Type} (l:List α),l.drop 0=l)∧
 (∀ {α:Type} (n:Nat),([]:List α).take n=[])∧
 (∀ {α:Type} (n:Nat),([]:List α).drop n=[])∧
 (∀ {α:Type} (l:List α),l++[]=l)∧
 (∀ {α:Type} (l:List α),[]++l=l)∧
 (∀ {α:Type} (a:α) (l r:List α),(a::l)++r=a::(l++r))∧
 (∀ {α:Type} (a:α) (l:List α),(a::l)[0]? =some a)∧
 (∀ {α:Type} (a:α) (l:List α) (i:Nat),(a::l)[i+1]? =l[i]?)∧
 (∀ {α:Type} (l:List α),l.toArray.toList=l)∧
 (∀ {α:Type} (l:List α) (i:Nat),l.toArray[i]? =l[i]?)∧
 (∀ {α β:Type} (f:α→β) (a:α) (l:List α),(a::l).map f=f a::l.map f)∧
 (∀ {α β:Type} (f:α→β),([]:List α).map f=[])∧
 (∀ {α β:Type} (f:α→β) (a:α),(some a).map f=some (f a))∧
 (∀ {α β:Type} (f:α→β),(none:Option α).map f=none)∧
 (∀ n:Nat,0+n=n)∧(∀ n:Nat,n+0=n)∧
 (∀ p:Prop,(True∧p)=p)∧(∀ p:Prop,(p∧True)=p)∧(∀ p:Prop,(p∧p)=p)∧
 (∀ {_:Decidable True},decide True=true)∧(∀ {_:Decidable False},decide False=false)∧
 (∀ p:Prop,(True→p)=p)∧(∀ p:Prop,(False→p)=True)∧
 (∀ {α:Type} (a:α),(a=a)=True)∧
 ((!true)=false)∧((!false)=true)∧((false=true)=False)∧((true=false)=False)∧
 (((0:Nat):Int)=0)∧(∀ b:Bool,(true||b)=true)∧(∀ n:Nat,(n<n)=False)∧(∀ n:Nat,(n≤n)=True)∧(∀ n:Nat,(0≤n)=True)∧
 (∀ n:Nat,((n:Int)).toNat=n)∧((0:Int).toNat=0)∧(∀ {α:Type} [BEq α] [ReflBEq α] (a:α),(a == a)=true)∧
 ((1=0)=False)∧((0=1)=False):=by
 refine⟨?_,?_,?_,?_,?_,?_,?_,?_,?_,?_,?_,?_,?_,?_,?_,?_,?_,?_,?_,?_,?_,?_,?_,?_,?_,?_,?_,?_,?_,?_,?_,?_,?_,?_,?_,?_,?_,?_,?_,?_,?_,?_,?_,?_,?_,?_⟩
 all_goals(intros;first|rfl|(simp;done))
theorem zG:(∀ (xs:List Int) (i:Int),gt (.int .i64) xs i=xs.getD i.toNat 0)∧(∀ (xs:List (List Int)) (i:Int),gt (.list (.int .i64)) xs i=xs.getD i.toNat [])∧
 (∀ (xs:List Bool) (i:Int),gt .bool xs i=xs.getD i.toNat false)∧(∀ (xs:List (List UInt8)) (i:Int),gt .str xs i=xs.getD i.toNat []):=⟨Vk,Vq,Vr,Vp⟩
end Go.AV
