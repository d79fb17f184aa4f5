/- What the evaluator reads of the types of this seat: each fact by the kernel. Written by a program of mine (tyfacts.py). -/
import Derived.Test.YtceafldjjedhcaaDoorRows
import Derived.Test.YtceafldjjedhcaaDoorLz
namespace Go.Proofs.YtceafldjjedhcaaDoor
open Go.AV

theorem Tryd.td1 : bh Tryd.prog 1 = some { k := .other, size := 1, bytes := 8, zero := [.junk] } := by kernel_rfl
theorem Tryd.td2 : bh Tryd.prog 2 = some { k := .int .i64, size := 1, bytes := 8, zero := [.int .i64 0] } := by kernel_rfl
theorem Tryd.td3 : bh Tryd.prog 3 = some { k := .int .i64, size := 1, bytes := 8, zero := [.int .i64 0] } := by kernel_rfl
theorem Tryd.td4 : bh Tryd.prog 4 = some { k := .bool, size := 1, bytes := 1, zero := [.bool false] } := by kernel_rfl
theorem Tryd.td5 : bh Tryd.prog 5 = some { k := .int .u8, size := 1, bytes := 1, zero := [.int .u8 0] } := by kernel_rfl
theorem Tryd.td9 : bh Tryd.prog 9 = some { k := .str, size := 1, bytes := 16, zero := [.str []] } := by kernel_rfl
theorem Tryd.td22 : bh Tryd.prog 22 = some { k := .slice 25, size := 1, bytes := 24, zero := [.nils] } := by kernel_rfl
theorem Tryd.el22 : eT Tryd.prog 22 = some { e := 25, size := 1, bytes := 24, zero := [.nils], t := .list (.int .i64) } := by kernel_rfl
theorem Tryd.td24 : bh Tryd.prog 24 = some { k := .struct [(0, 3, 1), (1, 3, 1), (2, 22, 1), (3, 22, 1)], size := 4, bytes := 64, zero := [.int .i64 0, .int .i64 0, .nils, .nils] } := by kernel_rfl
theorem Tryd.st24 : fv Tryd.prog 24 = some ([(0, 3, 1), (1, 3, 1), (2, 22, 1), (3, 22, 1)], [.int .i64 0, .int .i64 0, .nils, .nils]) := by kernel_rfl
theorem Tryd.td25 : bh Tryd.prog 25 = some { k := .slice 3, size := 1, bytes := 24, zero := [.nils] } := by kernel_rfl
theorem Tryd.el25 : eT Tryd.prog 25 = some { e := 3, size := 1, bytes := 8, zero := [.int .i64 0], t := .int .i64 } := by kernel_rfl
theorem Tryd.td28 : bh Tryd.prog 28 = some { k := .int .i64, size := 1, bytes := 8, zero := [.int .i64 0] } := by kernel_rfl
theorem Tryd.td32 : bh Tryd.prog 32 = some { k := .struct [(0, 3, 1), (1, 3, 1), (2, 3, 1), (3, 22, 1), (4, 22, 1)], size := 5, bytes := 72, zero := [.int .i64 0, .int .i64 0, .int .i64 0, .nils, .nils] } := by kernel_rfl
theorem Tryd.st32 : fv Tryd.prog 32 = some ([(0, 3, 1), (1, 3, 1), (2, 3, 1), (3, 22, 1), (4, 22, 1)], [.int .i64 0, .int .i64 0, .int .i64 0, .nils, .nils]) := by kernel_rfl
theorem Tryd.td36 : bh Tryd.prog 36 = some { k := .struct [(0, 25, 1), (1, 3, 1), (2, 3, 1)], size := 3, bytes := 40, zero := [.nils, .int .i64 0, .int .i64 0] } := by kernel_rfl
theorem Tryd.st36 : fv Tryd.prog 36 = some ([(0, 25, 1), (1, 3, 1), (2, 3, 1)], [.nils, .int .i64 0, .int .i64 0]) := by kernel_rfl
theorem Tryd.td48 : bh Tryd.prog 48 = some { k := .struct [(0, 24, 4), (4, 25, 1), (5, 22, 1), (6, 25, 1)], size := 7, bytes := 136, zero := [.int .i64 0, .int .i64 0, .nils, .nils, .nils, .nils, .nils] } := by kernel_rfl
theorem Tryd.st48 : fv Tryd.prog 48 = some ([(0, 24, 4), (4, 25, 1), (5, 22, 1), (6, 25, 1)], [.int .i64 0, .int .i64 0, .nils, .nils, .nils, .nils, .nils]) := by kernel_rfl
theorem Tryd.td51 : bh Tryd.prog 51 = some { k := .struct [(0, 3, 1), (1, 3, 1), (2, 3, 1)], size := 3, bytes := 24, zero := [.int .i64 0, .int .i64 0, .int .i64 0] } := by kernel_rfl
theorem Tryd.fl51 : jU Tryd.prog 51 = some [0, 0, 0] := by kernel_rfl
theorem Tryd.st51 : fv Tryd.prog 51 = some ([(0, 3, 1), (1, 3, 1), (2, 3, 1)], [.int .i64 0, .int .i64 0, .int .i64 0]) := by kernel_rfl
theorem Tryd.td57 : bh Tryd.prog 57 = some { k := .other, size := 1, bytes := 8, zero := [.junk] } := by kernel_rfl
theorem Tryd.td61 : bh Tryd.prog 61 = some { k := .slice 67, size := 1, bytes := 24, zero := [.nils] } := by kernel_rfl
theorem Tryd.el61 : eT Tryd.prog 61 = some { e := 67, size := 2, bytes := 48, zero := [.nils, .nils], t := .pair (.list (.int .i64)) (.pair (.list (.int .i64)) (.unit)) } := by kernel_rfl
theorem Tryd.td63 : bh Tryd.prog 63 = some { k := .struct [(0, 24, 4), (4, 32, 5), (9, 61, 1), (10, 60, 1)], size := 11, bytes := 168, zero := [.int .i64 0, .int .i64 0, .nils, .nils, .int .i64 0, .int .i64 0, .int .i64 0, .nils, .nils, .nils, .junk] } := by kernel_rfl
theorem Tryd.st63 : fv Tryd.prog 63 = some ([(0, 24, 4), (4, 32, 5), (9, 61, 1), (10, 60, 1)], [.int .i64 0, .int .i64 0, .nils, .nils, .int .i64 0, .int .i64 0, .int .i64 0, .nils, .nils, .nils, .junk]) := by kernel_rfl
theorem Tryd.td67 : bh Tryd.prog 67 = some { k := .struct [(0, 25, 1), (1, 25, 1)], size := 2, bytes := 48, zero := [.nils, .nils] } := by kernel_rfl
theorem Tryd.st67 : fv Tryd.prog 67 = some ([(0, 25, 1), (1, 25, 1)], [.nils, .nils]) := by kernel_rfl
theorem Tryd.td71 : bh Tryd.prog 71 = some { k := .other, size := 1, bytes := 8, zero := [.junk] } := by kernel_rfl
theorem Tryd.td75 : bh Tryd.prog 75 = some { k := .other, size := 1, bytes := 8, zero := [.junk] } := by kernel_rfl
theorem Tryd.td82 : bh Tryd.prog 82 = some { k := .struct [(0, 3, 1), (1, 3, 1)], size := 2, bytes := 16, zero := [.int .i64 0, .int .i64 0] } := by kernel_rfl
theorem Tryd.fl82 : jU Tryd.prog 82 = some [0, 0] := by kernel_rfl
theorem Tryd.st82 : fv Tryd.prog 82 = some ([(0, 3, 1), (1, 3, 1)], [.int .i64 0, .int .i64 0]) := by kernel_rfl
theorem Tryd.td83 : bh Tryd.prog 83 = some { k := .ptr 63, size := 1, bytes := 8, zero := [.nilp] } := by kernel_rfl
theorem Tryd.td90 : bh Tryd.prog 90 = some { k := .slice 91, size := 1, bytes := 24, zero := [.nils] } := by kernel_rfl
theorem Tryd.el90 : eT Tryd.prog 90 = some { e := 91, size := 1, bytes := 24, zero := [.nils], t := .list .bool } := by kernel_rfl
theorem Tryd.td91 : bh Tryd.prog 91 = some { k := .slice 4, size := 1, bytes := 24, zero := [.nils] } := by kernel_rfl
theorem Tryd.el91 : eT Tryd.prog 91 = some { e := 4, size := 1, bytes := 1, zero := [.bool false], t := .bool } := by kernel_rfl
theorem Tryd.td93 : bh Tryd.prog 93 = some { k := .struct [(0, 82, 2), (2, 25, 1)], size := 3, bytes := 40, zero := [.int .i64 0, .int .i64 0, .nils] } := by kernel_rfl
theorem Tryd.st93 : fv Tryd.prog 93 = some ([(0, 82, 2), (2, 25, 1)], [.int .i64 0, .int .i64 0, .nils]) := by kernel_rfl
theorem Tryd.td94 : bh Tryd.prog 94 = some { k := .slice 93, size := 1, bytes := 24, zero := [.nils] } := by kernel_rfl
theorem Tryd.el94 : eT Tryd.prog 94 = some { e := 93, size := 3, bytes := 40, zero := [.int .i64 0, .int .i64 0, .nils], t := .pair (.pair (.int .i64) (.pair (.int .i64) (.unit))) (.pair (.list (.int .i64)) (.unit)) } := by kernel_rfl
theorem Tryd.td95 : bh Tryd.prog 95 = some { k := .slice 5, size := 1, bytes := 24, zero := [.nils] } := by kernel_rfl
theorem Tryd.el95 : eT Tryd.prog 95 = some { e := 5, size := 1, bytes := 1, zero := [.int .u8 0], t := .int .u8 } := by kernel_rfl
theorem Tryd.td111 : bh Tryd.prog 111 = some { k := .int .u64, size := 1, bytes := 8, zero := [.int .u64 0] } := by kernel_rfl
theorem Tryd.td122 : bh Tryd.prog 122 = some { k := .array 128 3, size := 128, bytes := 1024, zero := List.replicate 128 (.int .i64 0) } := by kernel_rfl
theorem Tryd.ea122 : eT Tryd.prog 122 = none := by kernel_rfl
theorem Tryd.sa122 : fv Tryd.prog 122 = none := by kernel_rfl
theorem Tryd.td134 : bh Tryd.prog 134 = some { k := .array 65 5, size := 65, bytes := 65, zero := List.replicate 65 (.int .u8 0) } := by kernel_rfl
theorem Tryd.ea134 : eT Tryd.prog 134 = none := by kernel_rfl
theorem Tryd.sa134 : fv Tryd.prog 134 = none := by kernel_rfl
theorem Tryd.mk60 : gz Tryd.prog 60 = some { k := 9, e := 3, kk := .str, vk := .int } := by kernel_rfl
theorem Tryd.mk120 : gz Tryd.prog 120 = some { k := 122, e := 3, kk := .arr 128, vk := .int } := by kernel_rfl
theorem Tryd.mixed : Tryd.prog.follows .mixedOrders = true := by kernel_rfl

end Go.Proofs.YtceafldjjedhcaaDoor
