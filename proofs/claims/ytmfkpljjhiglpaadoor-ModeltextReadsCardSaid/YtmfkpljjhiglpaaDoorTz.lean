/- What the evaluator reads of the types of this seat: each fact by the kernel. Written by a program of mine (tyfacts.py). -/
import Derived.Test.YtmfkpljjhiglpaaDoorRows
import Derived.Test.YtmfkpljjhiglpaaDoorLz
namespace Go.Proofs.YtmfkpljjhiglpaaDoor
open Go.AV

theorem Tryd.td1 : aA Tryd.prog 1 = some { k := .other, size := 1, bytes := 8, zero := [.junk] } := by kernel_rfl
theorem Tryd.td2 : aA Tryd.prog 2 = some { k := .int .i64, size := 1, bytes := 8, zero := [.int .i64 0] } := by kernel_rfl
theorem Tryd.td3 : aA Tryd.prog 3 = some { k := .int .i64, size := 1, bytes := 8, zero := [.int .i64 0] } := by kernel_rfl
theorem Tryd.td4 : aA Tryd.prog 4 = some { k := .bool, size := 1, bytes := 1, zero := [.bool false] } := by kernel_rfl
theorem Tryd.td5 : aA Tryd.prog 5 = some { k := .int .u8, size := 1, bytes := 1, zero := [.int .u8 0] } := by kernel_rfl
theorem Tryd.td9 : aA Tryd.prog 9 = some { k := .str, size := 1, bytes := 16, zero := [.str []] } := by kernel_rfl
theorem Tryd.td21 : aA Tryd.prog 21 = some { k := .int .i32, size := 1, bytes := 4, zero := [.int .i32 0] } := by kernel_rfl
theorem Tryd.td22 : aA Tryd.prog 22 = some { k := .slice 9, size := 1, bytes := 24, zero := [.nils] } := by kernel_rfl
theorem Tryd.el22 : eR Tryd.prog 22 = some { e := 9, size := 1, bytes := 16, zero := [.str []], t := .str } := by kernel_rfl
theorem Tryd.td24 : aA Tryd.prog 24 = some { k := .struct [(0, 22, 1)], size := 1, bytes := 24, zero := [.nils] } := by kernel_rfl
theorem Tryd.st24 : gd Tryd.prog 24 = some ([(0, 22, 1)], [.nils]) := by kernel_rfl
theorem Tryd.td25 : aA Tryd.prog 25 = some { k := .slice 44, size := 1, bytes := 24, zero := [.nils] } := by kernel_rfl
theorem Tryd.el25 : eR Tryd.prog 25 = some { e := 44, size := 1, bytes := 24, zero := [.nils], t := .list (.int .i64) } := by kernel_rfl
theorem Tryd.td27 : aA Tryd.prog 27 = some { k := .struct [(0, 3, 1), (1, 3, 1), (2, 25, 1), (3, 25, 1)], size := 4, bytes := 64, zero := [.int .i64 0, .int .i64 0, .nils, .nils] } := by kernel_rfl
theorem Tryd.st27 : gd Tryd.prog 27 = some ([(0, 3, 1), (1, 3, 1), (2, 25, 1), (3, 25, 1)], [.int .i64 0, .int .i64 0, .nils, .nils]) := by kernel_rfl
theorem Tryd.td29 : aA Tryd.prog 29 = some { k := .struct [(0, 9, 1), (1, 24, 1), (2, 24, 1), (3, 27, 4)], size := 7, bytes := 128, zero := [.str [], .nils, .nils, .int .i64 0, .int .i64 0, .nils, .nils] } := by kernel_rfl
theorem Tryd.st29 : gd Tryd.prog 29 = some ([(0, 9, 1), (1, 24, 1), (2, 24, 1), (3, 27, 4)], [.str [], .nils, .nils, .int .i64 0, .int .i64 0, .nils, .nils]) := by kernel_rfl
theorem Tryd.td32 : aA Tryd.prog 32 = some { k := .int .i64, size := 1, bytes := 8, zero := [.int .i64 0] } := by kernel_rfl
theorem Tryd.td44 : aA Tryd.prog 44 = some { k := .slice 3, size := 1, bytes := 24, zero := [.nils] } := by kernel_rfl
theorem Tryd.el44 : eR Tryd.prog 44 = some { e := 3, size := 1, bytes := 8, zero := [.int .i64 0], t := .int .i64 } := by kernel_rfl
theorem Tryd.td49 : aA Tryd.prog 49 = some { k := .array 2 24, size := 2, bytes := 48, zero := [.nils, .nils] } := by kernel_rfl
theorem Tryd.ea49 : eR Tryd.prog 49 = none := by kernel_rfl
theorem Tryd.sa49 : gd Tryd.prog 49 = none := by kernel_rfl
theorem Tryd.td54 : aA Tryd.prog 54 = some { k := .ptr 56, size := 1, bytes := 8, zero := [.nilp] } := by kernel_rfl
theorem Tryd.td56 : aA Tryd.prog 56 = some { k := .struct [(0, 29, 7), (7, 22, 1), (8, 3, 1), (9, 3, 1)], size := 10, bytes := 168, zero := [.str [], .nils, .nils, .int .i64 0, .int .i64 0, .nils, .nils, .nils, .int .i64 0, .int .i64 0] } := by kernel_rfl
theorem Tryd.st56 : gd Tryd.prog 56 = some ([(0, 29, 7), (7, 22, 1), (8, 3, 1), (9, 3, 1)], [.str [], .nils, .nils, .int .i64 0, .int .i64 0, .nils, .nils, .nils, .int .i64 0, .int .i64 0]) := by kernel_rfl
theorem Tryd.td90 : aA Tryd.prog 90 = some { k := .array 5 9, size := 5, bytes := 80, zero := [.str [], .str [], .str [], .str [], .str []] } := by kernel_rfl
theorem Tryd.ea90 : eR Tryd.prog 90 = none := by kernel_rfl
theorem Tryd.sa90 : gd Tryd.prog 90 = none := by kernel_rfl
theorem Tryd.mixed : Tryd.prog.follows .mixedOrders = true := by kernel_rfl

end Go.Proofs.YtmfkpljjhiglpaaDoor
