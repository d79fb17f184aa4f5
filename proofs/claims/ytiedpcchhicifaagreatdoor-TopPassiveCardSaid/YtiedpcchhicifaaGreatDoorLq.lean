/- Part of the proof. -/
import Derived.Test.YtiedpcchhicifaaGreatDoorLp
set_option linter.unusedSimpArgs false
set_option linter.unusedVariables false
namespace Go.AV
theorem iD {p:Prop}[Decidable p](h:¬p):AV.one (AC.bool false)=AV.one (AC.bool (decide p)):=by simp[h]
theorem jb {p:Prop}[Decidable p](h:p):AV.one (AC.bool true)=AV.one (AC.bool (decide p)):=by simp[h]
@[reducible] def tI:Ty:=.int .i64
@[reducible] def tL:Ty:=.list (.int .i64)
theorem Vk (xs:List Int)(i:Int):gt (.int .i64) xs i=xs.getD i.toNat 0:=rfl
theorem Vq (xs:List (List Int))(i:Int):gt (.list (.int .i64)) xs i=xs.getD i.toNat []:=rfl
theorem Vr (xs:List Bool)(i:Int):gt .bool xs i=xs.getD i.toNat false:=rfl
theorem Vp (xs:List (List UInt8))(i:Int):gt .str xs i=xs.getD i.toNat []:=rfl
theorem pC {α:Type}{xs ys:List α}{d:α}{k:Nat}(h:xs.take k=ys.take k)(h1:k<xs.length)(h2:k<ys.length)(e:xs.getD k d=ys.getD k d):xs.take (k+1)=ys.take (k+1):=by
 rw[List.take_succ_eq_append_getElem h1,List.take_succ_eq_append_getElem h2,h];simp[List.getD,h1,h2] at e;rw[e]
end Go.AV
