/- What the evaluator reads of the types of this seat: each fact by the kernel. Written by a program of mine (tyfacts.py). -/
import Derived.Test.YtfakhaagbimljaaDoorRows
import Derived.Test.YtfakhaagbimljaaDoorLz
namespace Go.Proofs.YtfakhaagbimljaaDoor
open Go.AV

theorem Tryd.td1 : aE Tryd.prog 1 = some { k := .other, size := 1, bytes := 8, zero := [.junk] } := by kernel_rfl
theorem Tryd.td2 : aE Tryd.prog 2 = some { k := .int .i64, size := 1, bytes := 8, zero := [.int .i64 0] } := by kernel_rfl
theorem Tryd.td3 : aE Tryd.prog 3 = some { k := .int .i64, size := 1, bytes := 8, zero := [.int .i64 0] } := by kernel_rfl
theorem Tryd.td4 : aE Tryd.prog 4 = some { k := .bool, size := 1, bytes := 1, zero := [.bool false] } := by kernel_rfl
theorem Tryd.td5 : aE Tryd.prog 5 = some { k := .int .u8, size := 1, bytes := 1, zero := [.int .u8 0] } := by kernel_rfl
theorem Tryd.td9 : aE Tryd.prog 9 = some { k := .str, size := 1, bytes := 16, zero := [.str []] } := by kernel_rfl
theorem Tryd.td21 : aE Tryd.prog 21 = some { k := .int .i32, size := 1, bytes := 4, zero := [.int .i32 0] } := by kernel_rfl
theorem Tryd.td22 : aE Tryd.prog 22 = some { k := .slice 9, size := 1, bytes := 24, zero := [.nils] } := by kernel_rfl
theorem Tryd.el22 : eM Tryd.prog 22 = some { e := 9, size := 1, bytes := 16, zero := [.str []], t := .str } := by kernel_rfl
theorem Tryd.td24 : aE Tryd.prog 24 = some { k := .struct [(0, 22, 1)], size := 1, bytes := 24, zero := [.nils] } := by kernel_rfl
theorem Tryd.st24 : gZ Tryd.prog 24 = some ([(0, 22, 1)], [.nils]) := by kernel_rfl
theorem Tryd.td27 : aE Tryd.prog 27 = some { k := .slice 60, size := 1, bytes := 24, zero := [.nils] } := by kernel_rfl
theorem Tryd.el27 : eM Tryd.prog 27 = some { e := 60, size := 2, bytes := 48, zero := [.nils, .nils], t := .pair (.list (.int .i64)) (.pair (.list (.int .i64)) (.unit)) } := by kernel_rfl
theorem Tryd.td28 : aE Tryd.prog 28 = some { k := .int .i64, size := 1, bytes := 8, zero := [.int .i64 0] } := by kernel_rfl
theorem Tryd.td43 : aE Tryd.prog 43 = some { k := .slice 3, size := 1, bytes := 24, zero := [.nils] } := by kernel_rfl
theorem Tryd.el43 : eM Tryd.prog 43 = some { e := 3, size := 1, bytes := 8, zero := [.int .i64 0], t := .int .i64 } := by kernel_rfl
theorem Tryd.td47 : aE Tryd.prog 47 = some { k := .struct [(0, 3, 1), (1, 27, 1)], size := 2, bytes := 32, zero := [.int .i64 0, .nils] } := by kernel_rfl
theorem Tryd.st47 : gZ Tryd.prog 47 = some ([(0, 3, 1), (1, 27, 1)], [.int .i64 0, .nils]) := by kernel_rfl
theorem Tryd.td60 : aE Tryd.prog 60 = some { k := .struct [(0, 43, 1), (1, 43, 1)], size := 2, bytes := 48, zero := [.nils, .nils] } := by kernel_rfl
theorem Tryd.st60 : gZ Tryd.prog 60 = some ([(0, 43, 1), (1, 43, 1)], [.nils, .nils]) := by kernel_rfl
theorem Tryd.td75 : aE Tryd.prog 75 = some { k := .ptr 78, size := 1, bytes := 8, zero := [.nilp] } := by kernel_rfl
theorem Tryd.td76 : aE Tryd.prog 76 = some { k := .slice 5, size := 1, bytes := 24, zero := [.nils] } := by kernel_rfl
theorem Tryd.el76 : eM Tryd.prog 76 = some { e := 5, size := 1, bytes := 1, zero := [.int .u8 0], t := .int .u8 } := by kernel_rfl
theorem Tryd.td78 : aE Tryd.prog 78 = some { k := .struct [(0, 75, 1), (1, 76, 1)], size := 2, bytes := 32, zero := [.nilp, .nils] } := by kernel_rfl
theorem Tryd.st78 : gZ Tryd.prog 78 = some ([(0, 75, 1), (1, 76, 1)], [.nilp, .nils]) := by kernel_rfl
theorem Tryd.td99 : aE Tryd.prog 99 = some { k := .other, size := 1, bytes := 8, zero := [.junk] } := by kernel_rfl
theorem Tryd.td103 : aE Tryd.prog 103 = some { k := .other, size := 1, bytes := 8, zero := [.junk] } := by kernel_rfl
theorem Tryd.td104 : aE Tryd.prog 104 = some { k := .other, size := 1, bytes := 8, zero := [.junk] } := by kernel_rfl
theorem Tryd.td122 : aE Tryd.prog 122 = some { k := .int .u64, size := 1, bytes := 8, zero := [.int .u64 0] } := by kernel_rfl
theorem Tryd.td126 : aE Tryd.prog 126 = some { k := .other, size := 1, bytes := 8, zero := [.junk] } := by kernel_rfl
theorem Tryd.mixed : Tryd.prog.follows .mixedOrders = true := by kernel_rfl

end Go.Proofs.YtfakhaagbimljaaDoor
