/- What the evaluator reads of the types of this seat: each fact by the kernel. Written by a program of mine (tyfacts.py). -/
import Derived.Test.YtdkgcbhbpdbmnaaRows
import Derived.Test.YtdkgcbhbpdbmnaaLz
namespace Go.Proofs.Ytdkgcbhbpdbmnaa
open Go.AV

theorem Try.td1 : bc Try.prog 1 = some { k := .other, size := 1, bytes := 8, zero := [.junk] } := by kernel_rfl
theorem Try.td2 : bc Try.prog 2 = some { k := .int .i64, size := 1, bytes := 8, zero := [.int .i64 0] } := by kernel_rfl
theorem Try.td3 : bc Try.prog 3 = some { k := .int .i64, size := 1, bytes := 8, zero := [.int .i64 0] } := by kernel_rfl
theorem Try.td4 : bc Try.prog 4 = some { k := .bool, size := 1, bytes := 1, zero := [.bool false] } := by kernel_rfl
theorem Try.td22 : bc Try.prog 22 = some { k := .slice 26, size := 1, bytes := 24, zero := [.nils] } := by kernel_rfl
theorem Try.el22 : eD Try.prog 22 = some { e := 26, size := 1, bytes := 24, zero := [.nils], t := .list (.int .i64) } := by kernel_rfl
theorem Try.td23 : bc Try.prog 23 = some { k := .slice 4, size := 1, bytes := 24, zero := [.nils] } := by kernel_rfl
theorem Try.el23 : eD Try.prog 23 = some { e := 4, size := 1, bytes := 1, zero := [.bool false], t := .bool } := by kernel_rfl
theorem Try.td25 : bc Try.prog 25 = some { k := .struct [(0, 3, 1), (1, 3, 1), (2, 22, 1), (3, 23, 1)], size := 4, bytes := 64, zero := [.int .i64 0, .int .i64 0, .nils, .nils] } := by kernel_rfl
theorem Try.st25 : gI Try.prog 25 = some ([(0, 3, 1), (1, 3, 1), (2, 22, 1), (3, 23, 1)], [.int .i64 0, .int .i64 0, .nils, .nils]) := by kernel_rfl
theorem Try.td26 : bc Try.prog 26 = some { k := .slice 3, size := 1, bytes := 24, zero := [.nils] } := by kernel_rfl
theorem Try.el26 : eD Try.prog 26 = some { e := 3, size := 1, bytes := 8, zero := [.int .i64 0], t := .int .i64 } := by kernel_rfl
theorem Try.td29 : bc Try.prog 29 = some { k := .int .i64, size := 1, bytes := 8, zero := [.int .i64 0] } := by kernel_rfl
theorem Try.td58 : bc Try.prog 58 = some { k := .struct [(0, 3, 1), (1, 3, 1), (2, 22, 1), (3, 22, 1)], size := 4, bytes := 64, zero := [.int .i64 0, .int .i64 0, .nils, .nils] } := by kernel_rfl
theorem Try.st58 : gI Try.prog 58 = some ([(0, 3, 1), (1, 3, 1), (2, 22, 1), (3, 22, 1)], [.int .i64 0, .int .i64 0, .nils, .nils]) := by kernel_rfl
theorem Try.td81 : bc Try.prog 81 = some { k := .array 2 3, size := 2, bytes := 16, zero := [.int .i64 0, .int .i64 0] } := by kernel_rfl
theorem Try.ea81 : eD Try.prog 81 = none := by kernel_rfl
theorem Try.sa81 : gI Try.prog 81 = none := by kernel_rfl
theorem Try.td82 : bc Try.prog 82 = some { k := .other, size := 1, bytes := 8, zero := [.junk] } := by kernel_rfl
theorem Try.td83 : bc Try.prog 83 = some { k := .slice 110, size := 1, bytes := 24, zero := [.nils] } := by kernel_rfl
theorem Try.el83 : eD Try.prog 83 = some { e := 110, size := 3, bytes := 40, zero := [.int .i64 0, .int .i64 0, .nils], t := .pair (.pair (.int .i64) (.pair (.int .i64) (.unit))) (.pair (.list (.int .i64)) (.unit)) } := by kernel_rfl
theorem Try.td87 : bc Try.prog 87 = some { k := .other, size := 1, bytes := 8, zero := [.junk] } := by kernel_rfl
theorem Try.td95 : bc Try.prog 95 = some { k := .other, size := 1, bytes := 8, zero := [.junk] } := by kernel_rfl
theorem Try.td110 : bc Try.prog 110 = some { k := .struct [(0, 81, 2), (2, 26, 1)], size := 3, bytes := 40, zero := [.int .i64 0, .int .i64 0, .nils] } := by kernel_rfl
theorem Try.st110 : gI Try.prog 110 = some ([(0, 81, 2), (2, 26, 1)], [.int .i64 0, .int .i64 0, .nils]) := by kernel_rfl
theorem Try.td114 : bc Try.prog 114 = some { k := .array 2 25, size := 8, bytes := 128, zero := [.int .i64 0, .int .i64 0, .nils, .nils, .int .i64 0, .int .i64 0, .nils, .nils] } := by kernel_rfl
theorem Try.ea114 : eD Try.prog 114 = none := by kernel_rfl
theorem Try.sa114 : gI Try.prog 114 = none := by kernel_rfl
theorem Try.td121 : bc Try.prog 121 = some { k := .other, size := 1, bytes := 8, zero := [.junk] } := by kernel_rfl
theorem Try.mk84 : fL Try.prog 84 = some { k := 81, e := 3, kk := .arr 2, vk := .int } := by kernel_rfl
theorem Try.mixed : Try.prog.follows .mixedOrders = true := by kernel_rfl

end Go.Proofs.Ytdkgcbhbpdbmnaa
