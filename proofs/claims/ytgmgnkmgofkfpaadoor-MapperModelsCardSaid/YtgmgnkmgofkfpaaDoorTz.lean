/- What the evaluator reads of the types of this seat: each fact by the kernel. Written by a program of mine (tyfacts.py). -/
import Derived.Test.YtgmgnkmgofkfpaaDoorRows
import Derived.Test.YtgmgnkmgofkfpaaDoorLz
namespace Go.Proofs.YtgmgnkmgofkfpaaDoor
open Go.AV

theorem Tryd.td1 : bi Tryd.prog 1 = some { k := .other, size := 1, bytes := 8, zero := [.junk] } := by kernel_rfl
theorem Tryd.td2 : bi Tryd.prog 2 = some { k := .int .i64, size := 1, bytes := 8, zero := [.int .i64 0] } := by kernel_rfl
theorem Tryd.td3 : bi Tryd.prog 3 = some { k := .int .i64, size := 1, bytes := 8, zero := [.int .i64 0] } := by kernel_rfl
theorem Tryd.td4 : bi Tryd.prog 4 = some { k := .bool, size := 1, bytes := 1, zero := [.bool false] } := by kernel_rfl
theorem Tryd.td5 : bi Tryd.prog 5 = some { k := .int .u8, size := 1, bytes := 1, zero := [.int .u8 0] } := by kernel_rfl
theorem Tryd.td9 : bi Tryd.prog 9 = some { k := .str, size := 1, bytes := 16, zero := [.str []] } := by kernel_rfl
theorem Tryd.td22 : bi Tryd.prog 22 = some { k := .slice 25, size := 1, bytes := 24, zero := [.nils] } := by kernel_rfl
theorem Tryd.el22 : dJ Tryd.prog 22 = some { e := 25, size := 1, bytes := 24, zero := [.nils], t := .list (.int .i64) } := by kernel_rfl
theorem Tryd.td24 : bi Tryd.prog 24 = some { k := .struct [(0, 3, 1), (1, 3, 1), (2, 3, 1), (3, 22, 1), (4, 22, 1)], size := 5, bytes := 72, zero := [.int .i64 0, .int .i64 0, .int .i64 0, .nils, .nils] } := by kernel_rfl
theorem Tryd.st24 : eP Tryd.prog 24 = some ([(0, 3, 1), (1, 3, 1), (2, 3, 1), (3, 22, 1), (4, 22, 1)], [.int .i64 0, .int .i64 0, .int .i64 0, .nils, .nils]) := by kernel_rfl
theorem Tryd.td25 : bi Tryd.prog 25 = some { k := .slice 3, size := 1, bytes := 24, zero := [.nils] } := by kernel_rfl
theorem Tryd.el25 : dJ Tryd.prog 25 = some { e := 3, size := 1, bytes := 8, zero := [.int .i64 0], t := .int .i64 } := by kernel_rfl
theorem Tryd.td26 : bi Tryd.prog 26 = some { k := .int .i64, size := 1, bytes := 8, zero := [.int .i64 0] } := by kernel_rfl
theorem Tryd.td47 : bi Tryd.prog 47 = some { k := .struct [(0, 3, 1), (1, 3, 1), (2, 22, 1), (3, 22, 1)], size := 4, bytes := 64, zero := [.int .i64 0, .int .i64 0, .nils, .nils] } := by kernel_rfl
theorem Tryd.st47 : eP Tryd.prog 47 = some ([(0, 3, 1), (1, 3, 1), (2, 22, 1), (3, 22, 1)], [.int .i64 0, .int .i64 0, .nils, .nils]) := by kernel_rfl
theorem Tryd.td50 : bi Tryd.prog 50 = some { k := .struct [(0, 25, 1), (1, 3, 1), (2, 3, 1)], size := 3, bytes := 40, zero := [.nils, .int .i64 0, .int .i64 0] } := by kernel_rfl
theorem Tryd.st50 : eP Tryd.prog 50 = some ([(0, 25, 1), (1, 3, 1), (2, 3, 1)], [.nils, .int .i64 0, .int .i64 0]) := by kernel_rfl
theorem Tryd.td71 : bi Tryd.prog 71 = some { k := .ptr 77, size := 1, bytes := 8, zero := [.nilp] } := by kernel_rfl
theorem Tryd.td75 : bi Tryd.prog 75 = some { k := .slice 4, size := 1, bytes := 24, zero := [.nils] } := by kernel_rfl
theorem Tryd.el75 : dJ Tryd.prog 75 = some { e := 4, size := 1, bytes := 1, zero := [.bool false], t := .bool } := by kernel_rfl
theorem Tryd.td77 : bi Tryd.prog 77 = some { k := .struct [(0, 24, 5), (5, 3, 1)], size := 6, bytes := 80, zero := [.int .i64 0, .int .i64 0, .int .i64 0, .nils, .nils, .int .i64 0] } := by kernel_rfl
theorem Tryd.st77 : eP Tryd.prog 77 = some ([(0, 24, 5), (5, 3, 1)], [.int .i64 0, .int .i64 0, .int .i64 0, .nils, .nils, .int .i64 0]) := by kernel_rfl
theorem Tryd.td80 : bi Tryd.prog 80 = some { k := .other, size := 1, bytes := 8, zero := [.junk] } := by kernel_rfl
theorem Tryd.td83 : bi Tryd.prog 83 = some { k := .slice 90, size := 1, bytes := 24, zero := [.nils] } := by kernel_rfl
theorem Tryd.el83 : dJ Tryd.prog 83 = some { e := 90, size := 2, bytes := 48, zero := [.nils, .nils], t := .pair (.list (.int .i64)) (.pair (.list (.int .i64)) (.unit)) } := by kernel_rfl
theorem Tryd.td85 : bi Tryd.prog 85 = some { k := .struct [(0, 47, 4), (4, 24, 5), (9, 83, 1), (10, 82, 1)], size := 11, bytes := 168, zero := [.int .i64 0, .int .i64 0, .nils, .nils, .int .i64 0, .int .i64 0, .int .i64 0, .nils, .nils, .nils, .junk] } := by kernel_rfl
theorem Tryd.st85 : eP Tryd.prog 85 = some ([(0, 47, 4), (4, 24, 5), (9, 83, 1), (10, 82, 1)], [.int .i64 0, .int .i64 0, .nils, .nils, .int .i64 0, .int .i64 0, .int .i64 0, .nils, .nils, .nils, .junk]) := by kernel_rfl
theorem Tryd.td90 : bi Tryd.prog 90 = some { k := .struct [(0, 25, 1), (1, 25, 1)], size := 2, bytes := 48, zero := [.nils, .nils] } := by kernel_rfl
theorem Tryd.st90 : eP Tryd.prog 90 = some ([(0, 25, 1), (1, 25, 1)], [.nils, .nils]) := by kernel_rfl
theorem Tryd.td94 : bi Tryd.prog 94 = some { k := .struct [(0, 3, 1), (1, 3, 1)], size := 2, bytes := 16, zero := [.int .i64 0, .int .i64 0] } := by kernel_rfl
theorem Tryd.fl94 : j9 Tryd.prog 94 = some [0, 0] := by kernel_rfl
theorem Tryd.st94 : eP Tryd.prog 94 = some ([(0, 3, 1), (1, 3, 1)], [.int .i64 0, .int .i64 0]) := by kernel_rfl
theorem Tryd.td95 : bi Tryd.prog 95 = some { k := .slice 94, size := 1, bytes := 24, zero := [.nils] } := by kernel_rfl
theorem Tryd.el95 : dJ Tryd.prog 95 = some { e := 94, size := 2, bytes := 16, zero := [.int .i64 0, .int .i64 0], t := .pair (.int .i64) (.pair (.int .i64) (.unit)) } := by kernel_rfl
theorem Tryd.td96 : bi Tryd.prog 96 = some { k := .slice 95, size := 1, bytes := 24, zero := [.nils] } := by kernel_rfl
theorem Tryd.el96 : dJ Tryd.prog 96 = some { e := 95, size := 1, bytes := 24, zero := [.nils], t := .list (.pair (.int .i64) (.pair (.int .i64) (.unit))) } := by kernel_rfl
theorem Tryd.td101 : bi Tryd.prog 101 = some { k := .other, size := 1, bytes := 8, zero := [.junk] } := by kernel_rfl
theorem Tryd.td103 : bi Tryd.prog 103 = some { k := .ptr 85, size := 1, bytes := 8, zero := [.nilp] } := by kernel_rfl
theorem Tryd.td110 : bi Tryd.prog 110 = some { k := .slice 5, size := 1, bytes := 24, zero := [.nils] } := by kernel_rfl
theorem Tryd.el110 : dJ Tryd.prog 110 = some { e := 5, size := 1, bytes := 1, zero := [.int .u8 0], t := .int .u8 } := by kernel_rfl
theorem Tryd.td126 : bi Tryd.prog 126 = some { k := .int .u64, size := 1, bytes := 8, zero := [.int .u64 0] } := by kernel_rfl
theorem Tryd.td143 : bi Tryd.prog 143 = some { k := .array 65 5, size := 65, bytes := 65, zero := List.replicate 65 (.int .u8 0) } := by kernel_rfl
theorem Tryd.ea143 : dJ Tryd.prog 143 = none := by kernel_rfl
theorem Tryd.sa143 : eP Tryd.prog 143 = none := by kernel_rfl
theorem Tryd.mk82 : fq Tryd.prog 82 = some { k := 9, e := 3, kk := .str, vk := .int } := by kernel_rfl
theorem Tryd.mixed : Tryd.prog.follows .mixedOrders = true := by kernel_rfl

end Go.Proofs.YtgmgnkmgofkfpaaDoor
