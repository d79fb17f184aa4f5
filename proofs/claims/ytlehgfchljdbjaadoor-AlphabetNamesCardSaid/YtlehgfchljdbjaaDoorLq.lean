/- Words of the specifications: plain facts on lists and numbers. -/
import Derived.Test.YtlehgfchljdbjaaDoorLp
set_option linter.unusedSimpArgs false
set_option linter.unusedVariables false
namespace Go.AV

theorem gt_I (xs : List Int) (i : Int) : gt (.int .i64) xs i = xs.getD i.toNat 0 := rfl
theorem gt_L (xs : List (List Int)) (i : Int) : gt (.list (.int .i64)) xs i = xs.getD i.toNat [] := rfl
theorem gt_B (xs : List Bool) (i : Int) : gt .bool xs i = xs.getD i.toNat false := rfl
theorem gt_S (xs : List (List UInt8)) (i : Int) : gt .str xs i = xs.getD i.toNat [] := rfl
end Go.AV
