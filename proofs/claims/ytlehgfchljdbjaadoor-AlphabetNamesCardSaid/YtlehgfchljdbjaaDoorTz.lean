/- What the evaluator reads of the types of this seat: each fact by the kernel. Written by a program of mine (tyfacts.py). -/
import Derived.Test.YtlehgfchljdbjaaDoorRows
import Derived.Test.YtlehgfchljdbjaaDoorLz
namespace Go.Proofs.YtlehgfchljdbjaaDoor
open Go.AV

theorem Tryd.td1 : tdOf Tryd.prog 1 = some { k := .other, size := 1, bytes := 8, zero := [.junk] } := by kernel_rfl
theorem Tryd.td2 : tdOf Tryd.prog 2 = some { k := .int .i64, size := 1, bytes := 8, zero := [.int .i64 0] } := by kernel_rfl
theorem Tryd.td3 : tdOf Tryd.prog 3 = some { k := .int .i64, size := 1, bytes := 8, zero := [.int .i64 0] } := by kernel_rfl
theorem Tryd.td4 : tdOf Tryd.prog 4 = some { k := .bool, size := 1, bytes := 1, zero := [.bool false] } := by kernel_rfl
theorem Tryd.td9 : tdOf Tryd.prog 9 = some { k := .str, size := 1, bytes := 16, zero := [.str []] } := by kernel_rfl
theorem Tryd.td21 : tdOf Tryd.prog 21 = some { k := .int .i32, size := 1, bytes := 4, zero := [.int .i32 0] } := by kernel_rfl
theorem Tryd.td22 : tdOf Tryd.prog 22 = some { k := .slice 9, size := 1, bytes := 24, zero := [.nils] } := by kernel_rfl
theorem Tryd.el22 : elOf Tryd.prog 22 = some { e := 9, size := 1, bytes := 16, zero := [.str []], t := .str } := by kernel_rfl
theorem Tryd.td24 : tdOf Tryd.prog 24 = some { k := .struct [(0, 22, 1)], size := 1, bytes := 24, zero := [.nils] } := by kernel_rfl
theorem Tryd.st24 : stOf Tryd.prog 24 = some ([(0, 22, 1)], [.nils]) := by kernel_rfl
theorem Tryd.td29 : tdOf Tryd.prog 29 = some { k := .int .i64, size := 1, bytes := 8, zero := [.int .i64 0] } := by kernel_rfl
theorem Tryd.td34 : tdOf Tryd.prog 34 = some { k := .slice 3, size := 1, bytes := 24, zero := [.nils] } := by kernel_rfl
theorem Tryd.el34 : elOf Tryd.prog 34 = some { e := 3, size := 1, bytes := 8, zero := [.int .i64 0], t := .int .i64 } := by kernel_rfl
theorem Tryd.td68 : tdOf Tryd.prog 68 = some { k := .other, size := 1, bytes := 8, zero := [.junk] } := by kernel_rfl
theorem Tryd.mixed : Tryd.prog.follows .mixedOrders = true := by kernel_rfl

end Go.Proofs.YtlehgfchljdbjaaDoor
