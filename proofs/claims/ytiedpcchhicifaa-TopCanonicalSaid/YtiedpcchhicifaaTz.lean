/- What the evaluator reads of the types of this seat: each fact by the kernel. Written by a program of mine (tyfacts.py). -/
import Derived.Test.YtiedpcchhicifaaRows
import Derived.Test.YtiedpcchhicifaaLz
namespace Go.Proofs.Ytiedpcchhicifaa
open Go.AV

theorem Try.td1 : tdOf Try.prog 1 = some { k := .other, size := 1, bytes := 8, zero := [.junk] } := by kernel_rfl
theorem Try.td2 : tdOf Try.prog 2 = some { k := .int .i64, size := 1, bytes := 8, zero := [.int .i64 0] } := by kernel_rfl
theorem Try.td3 : tdOf Try.prog 3 = some { k := .int .i64, size := 1, bytes := 8, zero := [.int .i64 0] } := by kernel_rfl
theorem Try.td4 : tdOf Try.prog 4 = some { k := .bool, size := 1, bytes := 1, zero := [.bool false] } := by kernel_rfl
theorem Try.td5 : tdOf Try.prog 5 = some { k := .int .u8, size := 1, bytes := 1, zero := [.int .u8 0] } := by kernel_rfl
theorem Try.td9 : tdOf Try.prog 9 = some { k := .str, size := 1, bytes := 16, zero := [.str []] } := by kernel_rfl
theorem Try.td12 : tdOf Try.prog 12 = some { k := .int .u64, size := 1, bytes := 8, zero := [.int .u64 0] } := by kernel_rfl
theorem Try.td15 : tdOf Try.prog 15 = some { k := .ptr 67, size := 1, bytes := 8, zero := [.nilp] } := by kernel_rfl
theorem Try.td16 : tdOf Try.prog 16 = some { k := .ptr 70, size := 1, bytes := 8, zero := [.nilp] } := by kernel_rfl
theorem Try.td17 : tdOf Try.prog 17 = some { k := .ptr 80, size := 1, bytes := 8, zero := [.nilp] } := by kernel_rfl
theorem Try.td21 : tdOf Try.prog 21 = some { k := .int .i32, size := 1, bytes := 4, zero := [.int .i32 0] } := by kernel_rfl
theorem Try.td22 : tdOf Try.prog 22 = some { k := .slice 31, size := 1, bytes := 24, zero := [.nils] } := by kernel_rfl
theorem Try.el22 : elOf Try.prog 22 = some { e := 31, size := 1, bytes := 24, zero := [.nils], t := .list (.int .i64) } := by kernel_rfl
theorem Try.td23 : tdOf Try.prog 23 = some { k := .struct [(0, 3, 1), (1, 3, 1), (2, 22, 1), (3, 22, 1)], size := 4, bytes := 64, zero := [.int .i64 0, .int .i64 0, .nils, .nils] } := by kernel_rfl
theorem Try.st23 : stOf Try.prog 23 = some ([(0, 3, 1), (1, 3, 1), (2, 22, 1), (3, 22, 1)], [.int .i64 0, .int .i64 0, .nils, .nils]) := by kernel_rfl
theorem Try.td24 : tdOf Try.prog 24 = some { k := .struct [(0, 3, 1), (1, 3, 1), (2, 22, 1), (3, 22, 1)], size := 4, bytes := 64, zero := [.int .i64 0, .int .i64 0, .nils, .nils] } := by kernel_rfl
theorem Try.st24 : stOf Try.prog 24 = some ([(0, 3, 1), (1, 3, 1), (2, 22, 1), (3, 22, 1)], [.int .i64 0, .int .i64 0, .nils, .nils]) := by kernel_rfl
theorem Try.td25 : tdOf Try.prog 25 = some { k := .other, size := 1, bytes := 8, zero := [.junk] } := by kernel_rfl
theorem Try.td26 : tdOf Try.prog 26 = some { k := .int .i64, size := 1, bytes := 8, zero := [.int .i64 0] } := by kernel_rfl
theorem Try.td28 : tdOf Try.prog 28 = some { k := .other, size := 1, bytes := 8, zero := [.junk] } := by kernel_rfl
theorem Try.td30 : tdOf Try.prog 30 = some { k := .other, size := 1, bytes := 8, zero := [.junk] } := by kernel_rfl
theorem Try.td31 : tdOf Try.prog 31 = some { k := .slice 3, size := 1, bytes := 24, zero := [.nils] } := by kernel_rfl
theorem Try.el31 : elOf Try.prog 31 = some { e := 3, size := 1, bytes := 8, zero := [.int .i64 0], t := .int .i64 } := by kernel_rfl
theorem Try.td33 : tdOf Try.prog 33 = some { k := .other, size := 1, bytes := 8, zero := [.junk] } := by kernel_rfl
theorem Try.td34 : tdOf Try.prog 34 = some { k := .other, size := 1, bytes := 8, zero := [.junk] } := by kernel_rfl
theorem Try.td35 : tdOf Try.prog 35 = some { k := .other, size := 1, bytes := 8, zero := [.junk] } := by kernel_rfl
theorem Try.td37 : tdOf Try.prog 37 = some { k := .other, size := 1, bytes := 8, zero := [.junk] } := by kernel_rfl
theorem Try.td38 : tdOf Try.prog 38 = some { k := .other, size := 1, bytes := 8, zero := [.junk] } := by kernel_rfl
theorem Try.td40 : tdOf Try.prog 40 = some { k := .other, size := 1, bytes := 8, zero := [.junk] } := by kernel_rfl
theorem Try.td41 : tdOf Try.prog 41 = some { k := .struct [(0, 3, 1), (1, 3, 1)], size := 2, bytes := 16, zero := [.int .i64 0, .int .i64 0] } := by kernel_rfl
theorem Try.fl41 : flatOf Try.prog 41 = some [0, 0] := by kernel_rfl
theorem Try.st41 : stOf Try.prog 41 = some ([(0, 3, 1), (1, 3, 1)], [.int .i64 0, .int .i64 0]) := by kernel_rfl
theorem Try.td42 : tdOf Try.prog 42 = some { k := .struct [(0, 3, 1), (1, 3, 1)], size := 2, bytes := 16, zero := [.int .i64 0, .int .i64 0] } := by kernel_rfl
theorem Try.fl42 : flatOf Try.prog 42 = some [0, 0] := by kernel_rfl
theorem Try.st42 : stOf Try.prog 42 = some ([(0, 3, 1), (1, 3, 1)], [.int .i64 0, .int .i64 0]) := by kernel_rfl
theorem Try.td43 : tdOf Try.prog 43 = some { k := .other, size := 1, bytes := 8, zero := [.junk] } := by kernel_rfl
theorem Try.td44 : tdOf Try.prog 44 = some { k := .other, size := 1, bytes := 8, zero := [.junk] } := by kernel_rfl
theorem Try.td45 : tdOf Try.prog 45 = some { k := .other, size := 1, bytes := 8, zero := [.junk] } := by kernel_rfl
theorem Try.td46 : tdOf Try.prog 46 = some { k := .other, size := 1, bytes := 8, zero := [.junk] } := by kernel_rfl
theorem Try.td47 : tdOf Try.prog 47 = some { k := .other, size := 1, bytes := 8, zero := [.junk] } := by kernel_rfl
theorem Try.td48 : tdOf Try.prog 48 = some { k := .array 2 24, size := 8, bytes := 128, zero := [.int .i64 0, .int .i64 0, .nils, .nils, .int .i64 0, .int .i64 0, .nils, .nils] } := by kernel_rfl
theorem Try.ea48 : elOf Try.prog 48 = none := by kernel_rfl
theorem Try.sa48 : stOf Try.prog 48 = none := by kernel_rfl
theorem Try.td49 : tdOf Try.prog 49 = some { k := .slice 50, size := 1, bytes := 24, zero := [.nils] } := by kernel_rfl
theorem Try.el49 : elOf Try.prog 49 = some { e := 50, size := 1, bytes := 24, zero := [.nils], t := .list .bool } := by kernel_rfl
theorem Try.td50 : tdOf Try.prog 50 = some { k := .slice 4, size := 1, bytes := 24, zero := [.nils] } := by kernel_rfl
theorem Try.el50 : elOf Try.prog 50 = some { e := 4, size := 1, bytes := 1, zero := [.bool false], t := .bool } := by kernel_rfl
theorem Try.td51 : tdOf Try.prog 51 = some { k := .struct [(0, 42, 2), (2, 31, 1)], size := 3, bytes := 40, zero := [.int .i64 0, .int .i64 0, .nils] } := by kernel_rfl
theorem Try.st51 : stOf Try.prog 51 = some ([(0, 42, 2), (2, 31, 1)], [.int .i64 0, .int .i64 0, .nils]) := by kernel_rfl
theorem Try.td52 : tdOf Try.prog 52 = some { k := .struct [(0, 42, 2), (2, 31, 1)], size := 3, bytes := 40, zero := [.int .i64 0, .int .i64 0, .nils] } := by kernel_rfl
theorem Try.st52 : stOf Try.prog 52 = some ([(0, 42, 2), (2, 31, 1)], [.int .i64 0, .int .i64 0, .nils]) := by kernel_rfl
theorem Try.td53 : tdOf Try.prog 53 = some { k := .slice 52, size := 1, bytes := 24, zero := [.nils] } := by kernel_rfl
theorem Try.el53 : elOf Try.prog 53 = some { e := 52, size := 3, bytes := 40, zero := [.int .i64 0, .int .i64 0, .nils], t := .pair (.pair (.int .i64) (.pair (.int .i64) (.unit))) (.pair (.list (.int .i64)) (.unit)) } := by kernel_rfl
theorem Try.td54 : tdOf Try.prog 54 = some { k := .other, size := 1, bytes := 8, zero := [.junk] } := by kernel_rfl
theorem Try.td55 : tdOf Try.prog 55 = some { k := .other, size := 1, bytes := 8, zero := [.junk] } := by kernel_rfl
theorem Try.td56 : tdOf Try.prog 56 = some { k := .other, size := 1, bytes := 8, zero := [.junk] } := by kernel_rfl
theorem Try.td58 : tdOf Try.prog 58 = some { k := .other, size := 1, bytes := 8, zero := [.junk] } := by kernel_rfl
theorem Try.td59 : tdOf Try.prog 59 = some { k := .other, size := 1, bytes := 8, zero := [.junk] } := by kernel_rfl
theorem Try.td60 : tdOf Try.prog 60 = some { k := .other, size := 1, bytes := 8, zero := [.junk] } := by kernel_rfl
theorem Try.td62 : tdOf Try.prog 62 = some { k := .array 128 3, size := 128, bytes := 1024, zero := List.replicate 128 (.int .i64 0) } := by kernel_rfl
theorem Try.ea62 : elOf Try.prog 62 = none := by kernel_rfl
theorem Try.sa62 : stOf Try.prog 62 = none := by kernel_rfl
theorem Try.td63 : tdOf Try.prog 63 = some { k := .array 128 3, size := 128, bytes := 1024, zero := List.replicate 128 (.int .i64 0) } := by kernel_rfl
theorem Try.ea63 : elOf Try.prog 63 = none := by kernel_rfl
theorem Try.sa63 : stOf Try.prog 63 = none := by kernel_rfl
theorem Try.td65 : tdOf Try.prog 65 = some { k := .other, size := 1, bytes := 8, zero := [.junk] } := by kernel_rfl
theorem Try.td68 : tdOf Try.prog 68 = some { k := .array 0 16, size := 0, bytes := 0, zero := [] } := by kernel_rfl
theorem Try.ea68 : elOf Try.prog 68 = none := by kernel_rfl
theorem Try.sa68 : stOf Try.prog 68 = none := by kernel_rfl
theorem Try.td71 : tdOf Try.prog 71 = some { k := .other, size := 1, bytes := 8, zero := [.junk] } := by kernel_rfl
theorem Try.td72 : tdOf Try.prog 72 = some { k := .int .u32, size := 1, bytes := 4, zero := [.int .u32 0] } := by kernel_rfl
theorem Try.td75 : tdOf Try.prog 75 = some { k := .other, size := 1, bytes := 8, zero := [.junk] } := by kernel_rfl
theorem Try.td76 : tdOf Try.prog 76 = some { k := .ptr 5, size := 1, bytes := 8, zero := [.nilp] } := by kernel_rfl
theorem Try.td79 : tdOf Try.prog 79 = some { k := .struct [(0, 12, 1), (1, 12, 1), (2, 72, 1), (3, 73, 1), (4, 5, 1), (5, 5, 1), (6, 74, 1), (7, 75, 1), (8, 76, 1), (9, 77, 1), (10, 78, 1)], size := 11, bytes := 48, zero := [.int .u64 0, .int .u64 0, .int .u32 0, .int .u8 0, .int .u8 0, .int .u8 0, .int .u8 0, .junk, .nilp, .int .i32 0, .int .i32 0] } := by kernel_rfl
theorem Try.st79 : stOf Try.prog 79 = some ([(0, 12, 1), (1, 12, 1), (2, 72, 1), (3, 73, 1), (4, 5, 1), (5, 5, 1), (6, 74, 1), (7, 75, 1), (8, 76, 1), (9, 77, 1), (10, 78, 1)], [.int .u64 0, .int .u64 0, .int .u32 0, .int .u8 0, .int .u8 0, .int .u8 0, .int .u8 0, .junk, .nilp, .int .i32 0, .int .i32 0]) := by kernel_rfl
theorem Try.mk61 : mkOf Try.prog 61 = some { k := 63, e := 3, kk := .arr 128, vk := .int } := by kernel_rfl
theorem Try.mixed : Try.prog.follows .mixedOrders = true := by kernel_rfl

end Go.Proofs.Ytiedpcchhicifaa
