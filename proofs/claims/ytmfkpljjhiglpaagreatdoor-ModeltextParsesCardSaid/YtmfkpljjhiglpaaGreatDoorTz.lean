/- What the evaluator reads of the types of this seat: each fact by the kernel. Written by a program of mine (tyfacts.py). -/
import Derived.Test.YtmfkpljjhiglpaaGreatDoorRows
import Derived.Test.YtmfkpljjhiglpaaGreatDoorLz
namespace Go.Proofs.YtmfkpljjhiglpaaGreatDoor
open Go.AV

theorem Tryz.td1 : aJ Tryz.prog 1 = some { k := .other, size := 1, bytes := 8, zero := [.junk] } := by kernel_rfl
theorem Tryz.td2 : aJ Tryz.prog 2 = some { k := .int .i64, size := 1, bytes := 8, zero := [.int .i64 0] } := by kernel_rfl
theorem Tryz.td3 : aJ Tryz.prog 3 = some { k := .int .i64, size := 1, bytes := 8, zero := [.int .i64 0] } := by kernel_rfl
theorem Tryz.td4 : aJ Tryz.prog 4 = some { k := .bool, size := 1, bytes := 1, zero := [.bool false] } := by kernel_rfl
theorem Tryz.td5 : aJ Tryz.prog 5 = some { k := .int .u8, size := 1, bytes := 1, zero := [.int .u8 0] } := by kernel_rfl
theorem Tryz.td9 : aJ Tryz.prog 9 = some { k := .str, size := 1, bytes := 16, zero := [.str []] } := by kernel_rfl
theorem Tryz.td21 : aJ Tryz.prog 21 = some { k := .int .i32, size := 1, bytes := 4, zero := [.int .i32 0] } := by kernel_rfl
theorem Tryz.td22 : aJ Tryz.prog 22 = some { k := .slice 9, size := 1, bytes := 24, zero := [.nils] } := by kernel_rfl
theorem Tryz.el22 : fK Tryz.prog 22 = some { e := 9, size := 1, bytes := 16, zero := [.str []], t := .str } := by kernel_rfl
theorem Tryz.td24 : aJ Tryz.prog 24 = some { k := .struct [(0, 22, 1)], size := 1, bytes := 24, zero := [.nils] } := by kernel_rfl
theorem Tryz.st24 : gS Tryz.prog 24 = some ([(0, 22, 1)], [.nils]) := by kernel_rfl
theorem Tryz.td25 : aJ Tryz.prog 25 = some { k := .slice 45, size := 1, bytes := 24, zero := [.nils] } := by kernel_rfl
theorem Tryz.el25 : fK Tryz.prog 25 = some { e := 45, size := 1, bytes := 24, zero := [.nils], t := .list (.int .i64) } := by kernel_rfl
theorem Tryz.td27 : aJ Tryz.prog 27 = some { k := .struct [(0, 3, 1), (1, 3, 1), (2, 25, 1), (3, 25, 1)], size := 4, bytes := 64, zero := [.int .i64 0, .int .i64 0, .nils, .nils] } := by kernel_rfl
theorem Tryz.st27 : gS Tryz.prog 27 = some ([(0, 3, 1), (1, 3, 1), (2, 25, 1), (3, 25, 1)], [.int .i64 0, .int .i64 0, .nils, .nils]) := by kernel_rfl
theorem Tryz.td29 : aJ Tryz.prog 29 = some { k := .struct [(0, 9, 1), (1, 24, 1), (2, 24, 1), (3, 27, 4)], size := 7, bytes := 128, zero := [.str [], .nils, .nils, .int .i64 0, .int .i64 0, .nils, .nils] } := by kernel_rfl
theorem Tryz.st29 : gS Tryz.prog 29 = some ([(0, 9, 1), (1, 24, 1), (2, 24, 1), (3, 27, 4)], [.str [], .nils, .nils, .int .i64 0, .int .i64 0, .nils, .nils]) := by kernel_rfl
theorem Tryz.td32 : aJ Tryz.prog 32 = some { k := .int .i64, size := 1, bytes := 8, zero := [.int .i64 0] } := by kernel_rfl
theorem Tryz.td45 : aJ Tryz.prog 45 = some { k := .slice 3, size := 1, bytes := 24, zero := [.nils] } := by kernel_rfl
theorem Tryz.el45 : fK Tryz.prog 45 = some { e := 3, size := 1, bytes := 8, zero := [.int .i64 0], t := .int .i64 } := by kernel_rfl
theorem Tryz.td51 : aJ Tryz.prog 51 = some { k := .array 2 24, size := 2, bytes := 48, zero := [.nils, .nils] } := by kernel_rfl
theorem Tryz.ea51 : fK Tryz.prog 51 = none := by kernel_rfl
theorem Tryz.sa51 : gS Tryz.prog 51 = none := by kernel_rfl
theorem Tryz.td58 : aJ Tryz.prog 58 = some { k := .ptr 60, size := 1, bytes := 8, zero := [.nilp] } := by kernel_rfl
theorem Tryz.td60 : aJ Tryz.prog 60 = some { k := .struct [(0, 29, 7), (7, 22, 1), (8, 3, 1), (9, 3, 1)], size := 10, bytes := 168, zero := [.str [], .nils, .nils, .int .i64 0, .int .i64 0, .nils, .nils, .nils, .int .i64 0, .int .i64 0] } := by kernel_rfl
theorem Tryz.st60 : gS Tryz.prog 60 = some ([(0, 29, 7), (7, 22, 1), (8, 3, 1), (9, 3, 1)], [.str [], .nils, .nils, .int .i64 0, .int .i64 0, .nils, .nils, .nils, .int .i64 0, .int .i64 0]) := by kernel_rfl
theorem Tryz.td65 : aJ Tryz.prog 65 = some { k := .ptr 67, size := 1, bytes := 8, zero := [.nilp] } := by kernel_rfl
theorem Tryz.td67 : aJ Tryz.prog 67 = some { k := .struct [(0, 3, 1), (1, 22, 1), (2, 29, 7)], size := 9, bytes := 160, zero := [.int .i64 0, .nils, .str [], .nils, .nils, .int .i64 0, .int .i64 0, .nils, .nils] } := by kernel_rfl
theorem Tryz.st67 : gS Tryz.prog 67 = some ([(0, 3, 1), (1, 22, 1), (2, 29, 7)], [.int .i64 0, .nils, .str [], .nils, .nils, .int .i64 0, .int .i64 0, .nils, .nils]) := by kernel_rfl
theorem Tryz.td105 : aJ Tryz.prog 105 = some { k := .array 5 9, size := 5, bytes := 80, zero := [.str [], .str [], .str [], .str [], .str []] } := by kernel_rfl
theorem Tryz.ea105 : fK Tryz.prog 105 = none := by kernel_rfl
theorem Tryz.sa105 : gS Tryz.prog 105 = none := by kernel_rfl
theorem Tryz.mixed : Tryz.prog.follows .mixedOrders = true := by kernel_rfl

end Go.Proofs.YtmfkpljjhiglpaaGreatDoor
