/- What the evaluator reads of the types of this seat: each fact by the kernel. Written by a program of mine (tyfacts.py). -/
import Derived.Test.YtcbkfkgagcfcoaaRows
import Derived.Test.YtcbkfkgagcfcoaaLz
namespace Go.Proofs.Ytcbkfkgagcfcoaa
open Go.AV

theorem Try.td1 : tdOf Try.prog 1 = some { k := .other, size := 1, bytes := 8, zero := [.junk] } := by kernel_rfl
theorem Try.td2 : tdOf Try.prog 2 = some { k := .int .i64, size := 1, bytes := 8, zero := [.int .i64 0] } := by kernel_rfl
theorem Try.td3 : tdOf Try.prog 3 = some { k := .int .i64, size := 1, bytes := 8, zero := [.int .i64 0] } := by kernel_rfl
theorem Try.td4 : tdOf Try.prog 4 = some { k := .bool, size := 1, bytes := 1, zero := [.bool false] } := by kernel_rfl
theorem Try.td5 : tdOf Try.prog 5 = some { k := .int .u8, size := 1, bytes := 1, zero := [.int .u8 0] } := by kernel_rfl
theorem Try.td9 : tdOf Try.prog 9 = some { k := .str, size := 1, bytes := 16, zero := [.str []] } := by kernel_rfl
theorem Try.td12 : tdOf Try.prog 12 = some { k := .int .u64, size := 1, bytes := 8, zero := [.int .u64 0] } := by kernel_rfl
theorem Try.td15 : tdOf Try.prog 15 = some { k := .ptr 113, size := 1, bytes := 8, zero := [.nilp] } := by kernel_rfl
theorem Try.td16 : tdOf Try.prog 16 = some { k := .ptr 116, size := 1, bytes := 8, zero := [.nilp] } := by kernel_rfl
theorem Try.td17 : tdOf Try.prog 17 = some { k := .ptr 125, size := 1, bytes := 8, zero := [.nilp] } := by kernel_rfl
theorem Try.td21 : tdOf Try.prog 21 = some { k := .int .i32, size := 1, bytes := 4, zero := [.int .i32 0] } := by kernel_rfl
theorem Try.td22 : tdOf Try.prog 22 = some { k := .slice 30, size := 1, bytes := 24, zero := [.nils] } := by kernel_rfl
theorem Try.el22 : elOf Try.prog 22 = some { e := 30, size := 1, bytes := 24, zero := [.nils], t := .list (.int .i64) } := by kernel_rfl
theorem Try.td23 : tdOf Try.prog 23 = some { k := .struct [(0, 3, 1), (1, 3, 1), (2, 22, 1), (3, 22, 1)], size := 4, bytes := 64, zero := [.int .i64 0, .int .i64 0, .nils, .nils] } := by kernel_rfl
theorem Try.st23 : stOf Try.prog 23 = some ([(0, 3, 1), (1, 3, 1), (2, 22, 1), (3, 22, 1)], [.int .i64 0, .int .i64 0, .nils, .nils]) := by kernel_rfl
theorem Try.td24 : tdOf Try.prog 24 = some { k := .struct [(0, 3, 1), (1, 3, 1), (2, 22, 1), (3, 22, 1)], size := 4, bytes := 64, zero := [.int .i64 0, .int .i64 0, .nils, .nils] } := by kernel_rfl
theorem Try.st24 : stOf Try.prog 24 = some ([(0, 3, 1), (1, 3, 1), (2, 22, 1), (3, 22, 1)], [.int .i64 0, .int .i64 0, .nils, .nils]) := by kernel_rfl
theorem Try.td25 : tdOf Try.prog 25 = some { k := .int .i64, size := 1, bytes := 8, zero := [.int .i64 0] } := by kernel_rfl
theorem Try.td26 : tdOf Try.prog 26 = some { k := .other, size := 1, bytes := 8, zero := [.junk] } := by kernel_rfl
theorem Try.td27 : tdOf Try.prog 27 = some { k := .other, size := 1, bytes := 8, zero := [.junk] } := by kernel_rfl
theorem Try.td28 : tdOf Try.prog 28 = some { k := .other, size := 1, bytes := 8, zero := [.junk] } := by kernel_rfl
theorem Try.td29 : tdOf Try.prog 29 = some { k := .other, size := 1, bytes := 8, zero := [.junk] } := by kernel_rfl
theorem Try.td30 : tdOf Try.prog 30 = some { k := .slice 3, size := 1, bytes := 24, zero := [.nils] } := by kernel_rfl
theorem Try.el30 : elOf Try.prog 30 = some { e := 3, size := 1, bytes := 8, zero := [.int .i64 0], t := .int .i64 } := by kernel_rfl
theorem Try.td32 : tdOf Try.prog 32 = some { k := .other, size := 1, bytes := 8, zero := [.junk] } := by kernel_rfl
theorem Try.td33 : tdOf Try.prog 33 = some { k := .other, size := 1, bytes := 8, zero := [.junk] } := by kernel_rfl
theorem Try.td34 : tdOf Try.prog 34 = some { k := .other, size := 1, bytes := 8, zero := [.junk] } := by kernel_rfl
theorem Try.td35 : tdOf Try.prog 35 = some { k := .other, size := 1, bytes := 8, zero := [.junk] } := by kernel_rfl
theorem Try.td37 : tdOf Try.prog 37 = some { k := .other, size := 1, bytes := 8, zero := [.junk] } := by kernel_rfl
theorem Try.td39 : tdOf Try.prog 39 = some { k := .other, size := 1, bytes := 8, zero := [.junk] } := by kernel_rfl
theorem Try.td40 : tdOf Try.prog 40 = some { k := .other, size := 1, bytes := 8, zero := [.junk] } := by kernel_rfl
theorem Try.td41 : tdOf Try.prog 41 = some { k := .other, size := 1, bytes := 8, zero := [.junk] } := by kernel_rfl
theorem Try.td42 : tdOf Try.prog 42 = some { k := .other, size := 1, bytes := 8, zero := [.junk] } := by kernel_rfl
theorem Try.td44 : tdOf Try.prog 44 = some { k := .other, size := 1, bytes := 8, zero := [.junk] } := by kernel_rfl
theorem Try.td46 : tdOf Try.prog 46 = some { k := .other, size := 1, bytes := 8, zero := [.junk] } := by kernel_rfl
theorem Try.td48 : tdOf Try.prog 48 = some { k := .other, size := 1, bytes := 8, zero := [.junk] } := by kernel_rfl
theorem Try.td50 : tdOf Try.prog 50 = some { k := .other, size := 1, bytes := 8, zero := [.junk] } := by kernel_rfl
theorem Try.td51 : tdOf Try.prog 51 = some { k := .other, size := 1, bytes := 8, zero := [.junk] } := by kernel_rfl
theorem Try.td52 : tdOf Try.prog 52 = some { k := .other, size := 1, bytes := 8, zero := [.junk] } := by kernel_rfl
theorem Try.td54 : tdOf Try.prog 54 = some { k := .other, size := 1, bytes := 8, zero := [.junk] } := by kernel_rfl
theorem Try.td55 : tdOf Try.prog 55 = some { k := .slice 79, size := 1, bytes := 24, zero := [.nils] } := by kernel_rfl
theorem Try.el55 : elOf Try.prog 55 = some { e := 79, size := 2, bytes := 48, zero := [.nils, .nils], t := .pair (.list (.int .i64)) (.pair (.list (.int .i64)) (.unit)) } := by kernel_rfl
theorem Try.td57 : tdOf Try.prog 57 = some { k := .other, size := 1, bytes := 8, zero := [.junk] } := by kernel_rfl
theorem Try.td59 : tdOf Try.prog 59 = some { k := .other, size := 1, bytes := 8, zero := [.junk] } := by kernel_rfl
theorem Try.td60 : tdOf Try.prog 60 = some { k := .other, size := 1, bytes := 8, zero := [.junk] } := by kernel_rfl
theorem Try.td61 : tdOf Try.prog 61 = some { k := .other, size := 1, bytes := 8, zero := [.junk] } := by kernel_rfl
theorem Try.td62 : tdOf Try.prog 62 = some { k := .other, size := 1, bytes := 8, zero := [.junk] } := by kernel_rfl
theorem Try.td63 : tdOf Try.prog 63 = some { k := .other, size := 1, bytes := 8, zero := [.junk] } := by kernel_rfl
theorem Try.td64 : tdOf Try.prog 64 = some { k := .other, size := 1, bytes := 8, zero := [.junk] } := by kernel_rfl
theorem Try.td65 : tdOf Try.prog 65 = some { k := .other, size := 1, bytes := 8, zero := [.junk] } := by kernel_rfl
theorem Try.td66 : tdOf Try.prog 66 = some { k := .ptr 70, size := 1, bytes := 8, zero := [.nilp] } := by kernel_rfl
theorem Try.td67 : tdOf Try.prog 67 = some { k := .struct [(0, 24, 4)], size := 4, bytes := 64, zero := [.int .i64 0, .int .i64 0, .nils, .nils] } := by kernel_rfl
theorem Try.st67 : stOf Try.prog 67 = some ([(0, 24, 4)], [.int .i64 0, .int .i64 0, .nils, .nils]) := by kernel_rfl
theorem Try.td68 : tdOf Try.prog 68 = some { k := .struct [(0, 24, 4)], size := 4, bytes := 64, zero := [.int .i64 0, .int .i64 0, .nils, .nils] } := by kernel_rfl
theorem Try.st68 : stOf Try.prog 68 = some ([(0, 24, 4)], [.int .i64 0, .int .i64 0, .nils, .nils]) := by kernel_rfl
theorem Try.td69 : tdOf Try.prog 69 = some { k := .struct [(0, 68, 4), (4, 3, 1)], size := 5, bytes := 72, zero := [.int .i64 0, .int .i64 0, .nils, .nils, .int .i64 0] } := by kernel_rfl
theorem Try.st69 : stOf Try.prog 69 = some ([(0, 68, 4), (4, 3, 1)], [.int .i64 0, .int .i64 0, .nils, .nils, .int .i64 0]) := by kernel_rfl
theorem Try.td70 : tdOf Try.prog 70 = some { k := .struct [(0, 68, 4), (4, 3, 1)], size := 5, bytes := 72, zero := [.int .i64 0, .int .i64 0, .nils, .nils, .int .i64 0] } := by kernel_rfl
theorem Try.st70 : stOf Try.prog 70 = some ([(0, 68, 4), (4, 3, 1)], [.int .i64 0, .int .i64 0, .nils, .nils, .int .i64 0]) := by kernel_rfl
theorem Try.td71 : tdOf Try.prog 71 = some { k := .other, size := 1, bytes := 8, zero := [.junk] } := by kernel_rfl
theorem Try.td72 : tdOf Try.prog 72 = some { k := .slice 4, size := 1, bytes := 24, zero := [.nils] } := by kernel_rfl
theorem Try.el72 : elOf Try.prog 72 = some { e := 4, size := 1, bytes := 1, zero := [.bool false], t := .bool } := by kernel_rfl
theorem Try.td73 : tdOf Try.prog 73 = some { k := .other, size := 1, bytes := 8, zero := [.junk] } := by kernel_rfl
theorem Try.td75 : tdOf Try.prog 75 = some { k := .other, size := 1, bytes := 8, zero := [.junk] } := by kernel_rfl
theorem Try.td76 : tdOf Try.prog 76 = some { k := .other, size := 1, bytes := 8, zero := [.junk] } := by kernel_rfl
theorem Try.td77 : tdOf Try.prog 77 = some { k := .other, size := 1, bytes := 8, zero := [.junk] } := by kernel_rfl
theorem Try.td78 : tdOf Try.prog 78 = some { k := .struct [(0, 30, 1), (1, 30, 1)], size := 2, bytes := 48, zero := [.nils, .nils] } := by kernel_rfl
theorem Try.st78 : stOf Try.prog 78 = some ([(0, 30, 1), (1, 30, 1)], [.nils, .nils]) := by kernel_rfl
theorem Try.td79 : tdOf Try.prog 79 = some { k := .struct [(0, 30, 1), (1, 30, 1)], size := 2, bytes := 48, zero := [.nils, .nils] } := by kernel_rfl
theorem Try.st79 : stOf Try.prog 79 = some ([(0, 30, 1), (1, 30, 1)], [.nils, .nils]) := by kernel_rfl
theorem Try.td80 : tdOf Try.prog 80 = some { k := .other, size := 1, bytes := 8, zero := [.junk] } := by kernel_rfl
theorem Try.td81 : tdOf Try.prog 81 = some { k := .other, size := 1, bytes := 8, zero := [.junk] } := by kernel_rfl
theorem Try.td82 : tdOf Try.prog 82 = some { k := .other, size := 1, bytes := 8, zero := [.junk] } := by kernel_rfl
theorem Try.td83 : tdOf Try.prog 83 = some { k := .other, size := 1, bytes := 8, zero := [.junk] } := by kernel_rfl
theorem Try.td84 : tdOf Try.prog 84 = some { k := .other, size := 1, bytes := 8, zero := [.junk] } := by kernel_rfl
theorem Try.td85 : tdOf Try.prog 85 = some { k := .other, size := 1, bytes := 8, zero := [.junk] } := by kernel_rfl
theorem Try.td86 : tdOf Try.prog 86 = some { k := .other, size := 1, bytes := 8, zero := [.junk] } := by kernel_rfl
theorem Try.td87 : tdOf Try.prog 87 = some { k := .other, size := 1, bytes := 8, zero := [.junk] } := by kernel_rfl
theorem Try.td88 : tdOf Try.prog 88 = some { k := .int .u64, size := 1, bytes := 8, zero := [.int .u64 0] } := by kernel_rfl
theorem Try.td89 : tdOf Try.prog 89 = some { k := .other, size := 1, bytes := 8, zero := [.junk] } := by kernel_rfl
theorem Try.td90 : tdOf Try.prog 90 = some { k := .other, size := 1, bytes := 8, zero := [.junk] } := by kernel_rfl
theorem Try.td91 : tdOf Try.prog 91 = some { k := .int .i64, size := 1, bytes := 8, zero := [.int .i64 0] } := by kernel_rfl
theorem Try.td93 : tdOf Try.prog 93 = some { k := .other, size := 1, bytes := 8, zero := [.junk] } := by kernel_rfl
theorem Try.td94 : tdOf Try.prog 94 = some { k := .other, size := 1, bytes := 8, zero := [.junk] } := by kernel_rfl
theorem Try.td95 : tdOf Try.prog 95 = some { k := .other, size := 1, bytes := 8, zero := [.junk] } := by kernel_rfl
theorem Try.td96 : tdOf Try.prog 96 = some { k := .other, size := 1, bytes := 8, zero := [.junk] } := by kernel_rfl
theorem Try.td98 : tdOf Try.prog 98 = some { k := .other, size := 1, bytes := 8, zero := [.junk] } := by kernel_rfl
theorem Try.td99 : tdOf Try.prog 99 = some { k := .other, size := 1, bytes := 8, zero := [.junk] } := by kernel_rfl
theorem Try.td100 : tdOf Try.prog 100 = some { k := .int .u32, size := 1, bytes := 4, zero := [.int .u32 0] } := by kernel_rfl
theorem Try.td101 : tdOf Try.prog 101 = some { k := .other, size := 1, bytes := 8, zero := [.junk] } := by kernel_rfl
theorem Try.td102 : tdOf Try.prog 102 = some { k := .int .u64, size := 1, bytes := 8, zero := [.int .u64 0] } := by kernel_rfl
theorem Try.td103 : tdOf Try.prog 103 = some { k := .int .u64, size := 1, bytes := 8, zero := [.int .u64 0] } := by kernel_rfl
theorem Try.td104 : tdOf Try.prog 104 = some { k := .other, size := 1, bytes := 8, zero := [.junk] } := by kernel_rfl
theorem Try.td105 : tdOf Try.prog 105 = some { k := .other, size := 1, bytes := 8, zero := [.junk] } := by kernel_rfl
theorem Try.td106 : tdOf Try.prog 106 = some { k := .other, size := 1, bytes := 8, zero := [.junk] } := by kernel_rfl
theorem Try.td107 : tdOf Try.prog 107 = some { k := .ptr 3, size := 1, bytes := 8, zero := [.nilp] } := by kernel_rfl
theorem Try.td108 : tdOf Try.prog 108 = some { k := .other, size := 1, bytes := 8, zero := [.junk] } := by kernel_rfl
theorem Try.td109 : tdOf Try.prog 109 = some { k := .ptr 103, size := 1, bytes := 8, zero := [.nilp] } := by kernel_rfl
theorem Try.td110 : tdOf Try.prog 110 = some { k := .other, size := 1, bytes := 8, zero := [.junk] } := by kernel_rfl
theorem Try.td111 : tdOf Try.prog 111 = some { k := .other, size := 1, bytes := 8, zero := [.junk] } := by kernel_rfl
theorem Try.td114 : tdOf Try.prog 114 = some { k := .array 0 16, size := 0, bytes := 0, zero := [] } := by kernel_rfl
theorem Try.ea114 : elOf Try.prog 114 = none := by kernel_rfl
theorem Try.sa114 : stOf Try.prog 114 = none := by kernel_rfl
theorem Try.td117 : tdOf Try.prog 117 = some { k := .other, size := 1, bytes := 8, zero := [.junk] } := by kernel_rfl
theorem Try.td120 : tdOf Try.prog 120 = some { k := .other, size := 1, bytes := 8, zero := [.junk] } := by kernel_rfl
theorem Try.td121 : tdOf Try.prog 121 = some { k := .ptr 5, size := 1, bytes := 8, zero := [.nilp] } := by kernel_rfl
theorem Try.td124 : tdOf Try.prog 124 = some { k := .struct [(0, 12, 1), (1, 12, 1), (2, 100, 1), (3, 118, 1), (4, 5, 1), (5, 5, 1), (6, 119, 1), (7, 120, 1), (8, 121, 1), (9, 122, 1), (10, 123, 1)], size := 11, bytes := 48, zero := [.int .u64 0, .int .u64 0, .int .u32 0, .int .u8 0, .int .u8 0, .int .u8 0, .int .u8 0, .junk, .nilp, .int .i32 0, .int .i32 0] } := by kernel_rfl
theorem Try.st124 : stOf Try.prog 124 = some ([(0, 12, 1), (1, 12, 1), (2, 100, 1), (3, 118, 1), (4, 5, 1), (5, 5, 1), (6, 119, 1), (7, 120, 1), (8, 121, 1), (9, 122, 1), (10, 123, 1)], [.int .u64 0, .int .u64 0, .int .u32 0, .int .u8 0, .int .u8 0, .int .u8 0, .int .u8 0, .junk, .nilp, .int .i32 0, .int .i32 0]) := by kernel_rfl
theorem Try.mixed : Try.prog.follows .mixedOrders = true := by kernel_rfl

end Go.Proofs.Ytcbkfkgagcfcoaa
