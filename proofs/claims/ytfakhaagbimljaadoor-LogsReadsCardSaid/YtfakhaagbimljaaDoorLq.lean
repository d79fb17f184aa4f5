/- Words of the specifications: plain facts on lists and numbers. -/
import Derived.Test.YtfakhaagbimljaaDoorLp
set_option linter.unusedSimpArgs false
set_option linter.unusedVariables false
namespace Go.AV

theorem ck {p : Prop} [Decidable p] (h : ¬ p) : AV.one (AC.bool false) = AV.one (AC.bool (decide p)) := by simp [h]
theorem cI {p : Prop} [Decidable p] (h : p) : AV.one (AC.bool true) = AV.one (AC.bool (decide p)) := by simp [h]

theorem v8 (xs : List Int) (i : Int) : gt (.int .i64) xs i = xs.getD i.toNat 0 := rfl
theorem uT (xs : List (List Int)) (i : Int) : gt (.list (.int .i64)) xs i = xs.getD i.toNat [] := rfl
theorem uX (xs : List Bool) (i : Int) : gt .bool xs i = xs.getD i.toNat false := rfl
theorem uZ (xs : List (List UInt8)) (i : Int) : gt .str xs i = xs.getD i.toNat [] := rfl
theorem eU {α : Type} {xs ys : List α} {d : α} {k : Nat} (h : xs.take k = ys.take k) (h1 : k < xs.length) (h2 : k < ys.length) (e : xs.getD k d = ys.getD k d) : xs.take (k + 1) = ys.take (k + 1) := by
  rw [List.take_succ_eq_append_getElem h1, List.take_succ_eq_append_getElem h2, h]
  simp [List.getD, h1, h2] at e
  rw [e]

end Go.AV
