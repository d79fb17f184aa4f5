/- What the evaluator reads of the types of this seat: each fact by the kernel. Written by a program of mine (tyfacts.py). -/
import Derived.Test.YtcbkfkgagcfcoaaRows
import Derived.Test.YtcbkfkgagcfcoaaLw
namespace Go.Proofs.Ytcbkfkgagcfcoaa
open Go.AV

theorem Try.td2 : tdOf Try.prog 2 = some { k := .int .i64, size := 1, bytes := 8, zero := [.int .i64 0] } := by kernel_rfl
theorem Try.td3 : tdOf Try.prog 3 = some { k := .int .i64, size := 1, bytes := 8, zero := [.int .i64 0] } := by kernel_rfl
theorem Try.td4 : tdOf Try.prog 4 = some { k := .bool, size := 1, bytes := 1, zero := [.bool false] } := by kernel_rfl
theorem Try.td5 : tdOf Try.prog 5 = some { k := .int .u8, size := 1, bytes := 1, zero := [.int .u8 0] } := by kernel_rfl
theorem Try.td9 : tdOf Try.prog 9 = some { k := .str, size := 1, bytes := 16, zero := [.str []] } := by kernel_rfl
theorem Try.td12 : tdOf Try.prog 12 = some { k := .int .u64, size := 1, bytes := 8, zero := [.int .u64 0] } := by kernel_rfl
theorem Try.td15 : tdOf Try.prog 15 = some { k := .ptr 113, size := 1, bytes := 8, zero := [.nilp] } := by kernel_rfl
theorem Try.td16 : tdOf Try.prog 16 = some { k := .ptr 116, size := 1, bytes := 8, zero := [.nilp] } := by kernel_rfl
theorem Try.td17 : tdOf Try.prog 17 = some { k := .ptr 125, size := 1, bytes := 8, zero := [.nilp] } := by kernel_rfl
theorem Try.td21 : tdOf Try.prog 21 = some { k := .int .i32, size := 1, bytes := 4, zero := [.int .i32 0] } := by kernel_rfl
theorem Try.td22 : tdOf Try.prog 22 = some { k := .slice 30, size := 1, bytes := 24, zero := [.nils] } := by kernel_rfl
theorem Try.el22 : elOf Try.prog 22 = some { e := 30, size := 1, bytes := 24, zero := [.nils], t := .list (.int .i64) } := by kernel_rfl
theorem Try.td23 : tdOf Try.prog 23 = some { k := .struct [(0, 3, 1), (1, 3, 1), (2, 22, 1), (3, 22, 1)], size := 4, bytes := 64, zero := [.int .i64 0, .int .i64 0, .nils, .nils] } := by kernel_rfl
theorem Try.st23 : stOf Try.prog 23 = some ([(0, 3, 1), (1, 3, 1), (2, 22, 1), (3, 22, 1)], [.int .i64 0, .int .i64 0, .nils, .nils]) := by kernel_rfl
theorem Try.td24 : tdOf Try.prog 24 = some { k := .struct [(0, 3, 1), (1, 3, 1), (2, 22, 1), (3, 22, 1)], size := 4, bytes := 64, zero := [.int .i64 0, .int .i64 0, .nils, .nils] } := by kernel_rfl
theorem Try.st24 : stOf Try.prog 24 = some ([(0, 3, 1), (1, 3, 1), (2, 22, 1), (3, 22, 1)], [.int .i64 0, .int .i64 0, .nils, .nils]) := by kernel_rfl
theorem Try.td25 : tdOf Try.prog 25 = some { k := .int .i64, size := 1, bytes := 8, zero := [.int .i64 0] } := by kernel_rfl
theorem Try.td30 : tdOf Try.prog 30 = some { k := .slice 3, size := 1, bytes := 24, zero := [.nils] } := by kernel_rfl
theorem Try.el30 : elOf Try.prog 30 = some { e := 3, size := 1, bytes := 8, zero := [.int .i64 0], t := .int .i64 } := by kernel_rfl
theorem Try.td55 : tdOf Try.prog 55 = some { k := .slice 79, size := 1, bytes := 24, zero := [.nils] } := by kernel_rfl
theorem Try.el55 : elOf Try.prog 55 = some { e := 79, size := 2, bytes := 48, zero := [.nils, .nils], t := .pair (.list (.int .i64)) (.pair (.list (.int .i64)) (.unit)) } := by kernel_rfl
theorem Try.td66 : tdOf Try.prog 66 = some { k := .ptr 70, size := 1, bytes := 8, zero := [.nilp] } := by kernel_rfl
theorem Try.td67 : tdOf Try.prog 67 = some { k := .struct [(0, 24, 4)], size := 4, bytes := 64, zero := [.int .i64 0, .int .i64 0, .nils, .nils] } := by kernel_rfl
theorem Try.st67 : stOf Try.prog 67 = some ([(0, 24, 4)], [.int .i64 0, .int .i64 0, .nils, .nils]) := by kernel_rfl
theorem Try.td68 : tdOf Try.prog 68 = some { k := .struct [(0, 24, 4)], size := 4, bytes := 64, zero := [.int .i64 0, .int .i64 0, .nils, .nils] } := by kernel_rfl
theorem Try.st68 : stOf Try.prog 68 = some ([(0, 24, 4)], [.int .i64 0, .int .i64 0, .nils, .nils]) := by kernel_rfl
theorem Try.td69 : tdOf Try.prog 69 = some { k := .struct [(0, 68, 4), (4, 3, 1)], size := 5, bytes := 72, zero := [.int .i64 0, .int .i64 0, .nils, .nils, .int .i64 0] } := by kernel_rfl
theorem Try.st69 : stOf Try.prog 69 = some ([(0, 68, 4), (4, 3, 1)], [.int .i64 0, .int .i64 0, .nils, .nils, .int .i64 0]) := by kernel_rfl
theorem Try.td70 : tdOf Try.prog 70 = some { k := .struct [(0, 68, 4), (4, 3, 1)], size := 5, bytes := 72, zero := [.int .i64 0, .int .i64 0, .nils, .nils, .int .i64 0] } := by kernel_rfl
theorem Try.st70 : stOf Try.prog 70 = some ([(0, 68, 4), (4, 3, 1)], [.int .i64 0, .int .i64 0, .nils, .nils, .int .i64 0]) := by kernel_rfl
theorem Try.td72 : tdOf Try.prog 72 = some { k := .slice 4, size := 1, bytes := 24, zero := [.nils] } := by kernel_rfl
theorem Try.el72 : elOf Try.prog 72 = some { e := 4, size := 1, bytes := 1, zero := [.bool false], t := .bool } := by kernel_rfl
theorem Try.td78 : tdOf Try.prog 78 = some { k := .struct [(0, 30, 1), (1, 30, 1)], size := 2, bytes := 48, zero := [.nils, .nils] } := by kernel_rfl
theorem Try.st78 : stOf Try.prog 78 = some ([(0, 30, 1), (1, 30, 1)], [.nils, .nils]) := by kernel_rfl
theorem Try.td79 : tdOf Try.prog 79 = some { k := .struct [(0, 30, 1), (1, 30, 1)], size := 2, bytes := 48, zero := [.nils, .nils] } := by kernel_rfl
theorem Try.st79 : stOf Try.prog 79 = some ([(0, 30, 1), (1, 30, 1)], [.nils, .nils]) := by kernel_rfl
theorem Try.td88 : tdOf Try.prog 88 = some { k := .int .u64, size := 1, bytes := 8, zero := [.int .u64 0] } := by kernel_rfl
theorem Try.td91 : tdOf Try.prog 91 = some { k := .int .i64, size := 1, bytes := 8, zero := [.int .i64 0] } := by kernel_rfl
theorem Try.td100 : tdOf Try.prog 100 = some { k := .int .u32, size := 1, bytes := 4, zero := [.int .u32 0] } := by kernel_rfl
theorem Try.td102 : tdOf Try.prog 102 = some { k := .int .u64, size := 1, bytes := 8, zero := [.int .u64 0] } := by kernel_rfl
theorem Try.td103 : tdOf Try.prog 103 = some { k := .int .u64, size := 1, bytes := 8, zero := [.int .u64 0] } := by kernel_rfl
theorem Try.td107 : tdOf Try.prog 107 = some { k := .ptr 3, size := 1, bytes := 8, zero := [.nilp] } := by kernel_rfl
theorem Try.td109 : tdOf Try.prog 109 = some { k := .ptr 103, size := 1, bytes := 8, zero := [.nilp] } := by kernel_rfl
theorem Try.td114 : tdOf Try.prog 114 = some { k := .array 0 16, size := 0, bytes := 0, zero := [] } := by kernel_rfl
theorem Try.td121 : tdOf Try.prog 121 = some { k := .ptr 5, size := 1, bytes := 8, zero := [.nilp] } := by kernel_rfl
theorem Try.mixed : Try.prog.follows .mixedOrders = true := by kernel_rfl

end Go.Proofs.Ytcbkfkgagcfcoaa
