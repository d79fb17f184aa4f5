/- What the evaluator reads of the types of this seat: each fact by the kernel. Written by a program of mine (tyfacts.py). -/
import Derived.Test.YtfbnhgefkdhiaaaRows
import Derived.Test.YtfbnhgefkdhiaaaLz
namespace Go.Proofs.Ytfbnhgefkdhiaaa
open Go.AV

theorem Try.td1 : tdOf Try.prog 1 = some { k := .other, size := 1, bytes := 8, zero := [.junk] } := by kernel_rfl
theorem Try.td2 : tdOf Try.prog 2 = some { k := .int .i64, size := 1, bytes := 8, zero := [.int .i64 0] } := by kernel_rfl
theorem Try.td3 : tdOf Try.prog 3 = some { k := .int .i64, size := 1, bytes := 8, zero := [.int .i64 0] } := by kernel_rfl
theorem Try.td4 : tdOf Try.prog 4 = some { k := .bool, size := 1, bytes := 1, zero := [.bool false] } := by kernel_rfl
theorem Try.td22 : tdOf Try.prog 22 = some { k := .slice 33, size := 1, bytes := 24, zero := [.nils] } := by kernel_rfl
theorem Try.el22 : elOf Try.prog 22 = some { e := 33, size := 1, bytes := 24, zero := [.nils], t := .list (.int .i64) } := by kernel_rfl
theorem Try.td24 : tdOf Try.prog 24 = some { k := .struct [(0, 3, 1), (1, 3, 1), (2, 22, 1), (3, 22, 1)], size := 4, bytes := 64, zero := [.int .i64 0, .int .i64 0, .nils, .nils] } := by kernel_rfl
theorem Try.st24 : stOf Try.prog 24 = some ([(0, 3, 1), (1, 3, 1), (2, 22, 1), (3, 22, 1)], [.int .i64 0, .int .i64 0, .nils, .nils]) := by kernel_rfl
theorem Try.td27 : tdOf Try.prog 27 = some { k := .int .i64, size := 1, bytes := 8, zero := [.int .i64 0] } := by kernel_rfl
theorem Try.td33 : tdOf Try.prog 33 = some { k := .slice 3, size := 1, bytes := 24, zero := [.nils] } := by kernel_rfl
theorem Try.el33 : elOf Try.prog 33 = some { e := 3, size := 1, bytes := 8, zero := [.int .i64 0], t := .int .i64 } := by kernel_rfl
theorem Try.td51 : tdOf Try.prog 51 = some { k := .struct [(0, 3, 1), (1, 3, 1)], size := 2, bytes := 16, zero := [.int .i64 0, .int .i64 0] } := by kernel_rfl
theorem Try.fl51 : flatOf Try.prog 51 = some [0, 0] := by kernel_rfl
theorem Try.st51 : stOf Try.prog 51 = some ([(0, 3, 1), (1, 3, 1)], [.int .i64 0, .int .i64 0]) := by kernel_rfl
theorem Try.td53 : tdOf Try.prog 53 = some { k := .struct [(0, 51, 2), (2, 3, 1)], size := 3, bytes := 24, zero := [.int .i64 0, .int .i64 0, .int .i64 0] } := by kernel_rfl
theorem Try.st53 : stOf Try.prog 53 = some ([(0, 51, 2), (2, 3, 1)], [.int .i64 0, .int .i64 0, .int .i64 0]) := by kernel_rfl
theorem Try.td54 : tdOf Try.prog 54 = some { k := .other, size := 1, bytes := 8, zero := [.junk] } := by kernel_rfl
theorem Try.td64 : tdOf Try.prog 64 = some { k := .slice 4, size := 1, bytes := 24, zero := [.nils] } := by kernel_rfl
theorem Try.el64 : elOf Try.prog 64 = some { e := 4, size := 1, bytes := 1, zero := [.bool false], t := .bool } := by kernel_rfl
theorem Try.td69 : tdOf Try.prog 69 = some { k := .slice 51, size := 1, bytes := 24, zero := [.nils] } := by kernel_rfl
theorem Try.el69 : elOf Try.prog 69 = some { e := 51, size := 2, bytes := 16, zero := [.int .i64 0, .int .i64 0], t := .pair (.int .i64) (.pair (.int .i64) (.unit)) } := by kernel_rfl
theorem Try.td88 : tdOf Try.prog 88 = some { k := .struct [(0, 3, 1), (1, 3, 1)], size := 2, bytes := 16, zero := [.int .i64 0, .int .i64 0] } := by kernel_rfl
theorem Try.fl88 : flatOf Try.prog 88 = some [0, 0] := by kernel_rfl
theorem Try.st88 : stOf Try.prog 88 = some ([(0, 3, 1), (1, 3, 1)], [.int .i64 0, .int .i64 0]) := by kernel_rfl
theorem Try.td98 : tdOf Try.prog 98 = some { k := .array 2 24, size := 8, bytes := 128, zero := [.int .i64 0, .int .i64 0, .nils, .nils, .int .i64 0, .int .i64 0, .nils, .nils] } := by kernel_rfl
theorem Try.ea98 : elOf Try.prog 98 = none := by kernel_rfl
theorem Try.sa98 : stOf Try.prog 98 = none := by kernel_rfl
theorem Try.td99 : tdOf Try.prog 99 = some { k := .slice 64, size := 1, bytes := 24, zero := [.nils] } := by kernel_rfl
theorem Try.el99 : elOf Try.prog 99 = some { e := 64, size := 1, bytes := 24, zero := [.nils], t := .list .bool } := by kernel_rfl
theorem Try.td101 : tdOf Try.prog 101 = some { k := .struct [(0, 88, 2), (2, 33, 1)], size := 3, bytes := 40, zero := [.int .i64 0, .int .i64 0, .nils] } := by kernel_rfl
theorem Try.st101 : stOf Try.prog 101 = some ([(0, 88, 2), (2, 33, 1)], [.int .i64 0, .int .i64 0, .nils]) := by kernel_rfl
theorem Try.td102 : tdOf Try.prog 102 = some { k := .slice 101, size := 1, bytes := 24, zero := [.nils] } := by kernel_rfl
theorem Try.el102 : elOf Try.prog 102 = some { e := 101, size := 3, bytes := 40, zero := [.int .i64 0, .int .i64 0, .nils], t := .pair (.pair (.int .i64) (.pair (.int .i64) (.unit))) (.pair (.list (.int .i64)) (.unit)) } := by kernel_rfl
theorem Try.td127 : tdOf Try.prog 127 = some { k := .array 128 3, size := 128, bytes := 1024, zero := List.replicate 128 (.int .i64 0) } := by kernel_rfl
theorem Try.ea127 : elOf Try.prog 127 = none := by kernel_rfl
theorem Try.sa127 : stOf Try.prog 127 = none := by kernel_rfl
theorem Try.mk125 : mkOf Try.prog 125 = some { k := 127, e := 3, kk := .arr 128, vk := .int } := by kernel_rfl
theorem Try.mixed : Try.prog.follows .mixedOrders = true := by kernel_rfl

end Go.Proofs.Ytfbnhgefkdhiaaa
