/- What the evaluator reads of the types of this seat: each fact by the kernel. Written by a program of mine (tyfacts.py). -/
import Derived.Test.YtoahhklogohehaaRows
import Derived.Test.YtoahhklogohehaaLz
namespace Go.Proofs.Ytoahhklogohehaa
open Go.AV

theorem Try.td1 : aW Try.prog 1 = some { k := .other, size := 1, bytes := 8, zero := [.junk] } := by kernel_rfl
theorem Try.td2 : aW Try.prog 2 = some { k := .int .i64, size := 1, bytes := 8, zero := [.int .i64 0] } := by kernel_rfl
theorem Try.td3 : aW Try.prog 3 = some { k := .int .i64, size := 1, bytes := 8, zero := [.int .i64 0] } := by kernel_rfl
theorem Try.td4 : aW Try.prog 4 = some { k := .bool, size := 1, bytes := 1, zero := [.bool false] } := by kernel_rfl
theorem Try.td5 : aW Try.prog 5 = some { k := .int .u8, size := 1, bytes := 1, zero := [.int .u8 0] } := by kernel_rfl
theorem Try.td9 : aW Try.prog 9 = some { k := .str, size := 1, bytes := 16, zero := [.str []] } := by kernel_rfl
theorem Try.td22 : aW Try.prog 22 = some { k := .slice 41, size := 1, bytes := 24, zero := [.nils] } := by kernel_rfl
theorem Try.el22 : gA Try.prog 22 = some { e := 41, size := 1, bytes := 24, zero := [.nils], t := .list (.int .i64) } := by kernel_rfl
theorem Try.td24 : aW Try.prog 24 = some { k := .struct [(0, 3, 1), (1, 3, 1), (2, 22, 1), (3, 22, 1)], size := 4, bytes := 64, zero := [.int .i64 0, .int .i64 0, .nils, .nils] } := by kernel_rfl
theorem Try.st24 : j6 Try.prog 24 = some ([(0, 3, 1), (1, 3, 1), (2, 22, 1), (3, 22, 1)], [.int .i64 0, .int .i64 0, .nils, .nils]) := by kernel_rfl
theorem Try.td27 : aW Try.prog 27 = some { k := .slice 52, size := 1, bytes := 24, zero := [.nils] } := by kernel_rfl
theorem Try.el27 : gA Try.prog 27 = some { e := 52, size := 3, bytes := 56, zero := [.nils, .int .i64 0, .nils], t := .pair (.list (.int .i64)) (.pair (.int .i64) (.pair (.list (.pair (.int .i64) (.pair (.int .i64) (.unit)))) (.unit))) } := by kernel_rfl
theorem Try.td29 : aW Try.prog 29 = some { k := .struct [(0, 27, 1)], size := 1, bytes := 24, zero := [.nils] } := by kernel_rfl
theorem Try.st29 : j6 Try.prog 29 = some ([(0, 27, 1)], [.nils]) := by kernel_rfl
theorem Try.td30 : aW Try.prog 30 = some { k := .int .i64, size := 1, bytes := 8, zero := [.int .i64 0] } := by kernel_rfl
theorem Try.td41 : aW Try.prog 41 = some { k := .slice 3, size := 1, bytes := 24, zero := [.nils] } := by kernel_rfl
theorem Try.el41 : gA Try.prog 41 = some { e := 3, size := 1, bytes := 8, zero := [.int .i64 0], t := .int .i64 } := by kernel_rfl
theorem Try.td50 : aW Try.prog 50 = some { k := .slice 58, size := 1, bytes := 24, zero := [.nils] } := by kernel_rfl
theorem Try.el50 : gA Try.prog 50 = some { e := 58, size := 2, bytes := 16, zero := [.int .i64 0, .int .i64 0], t := .pair (.int .i64) (.pair (.int .i64) (.unit)) } := by kernel_rfl
theorem Try.td52 : aW Try.prog 52 = some { k := .struct [(0, 41, 1), (1, 3, 1), (2, 50, 1)], size := 3, bytes := 56, zero := [.nils, .int .i64 0, .nils] } := by kernel_rfl
theorem Try.st52 : j6 Try.prog 52 = some ([(0, 41, 1), (1, 3, 1), (2, 50, 1)], [.nils, .int .i64 0, .nils]) := by kernel_rfl
theorem Try.td58 : aW Try.prog 58 = some { k := .struct [(0, 3, 1), (1, 3, 1)], size := 2, bytes := 16, zero := [.int .i64 0, .int .i64 0] } := by kernel_rfl
theorem Try.fl58 : oE Try.prog 58 = some [0, 0] := by kernel_rfl
theorem Try.st58 : j6 Try.prog 58 = some ([(0, 3, 1), (1, 3, 1)], [.int .i64 0, .int .i64 0]) := by kernel_rfl
theorem Try.td60 : aW Try.prog 60 = some { k := .ptr 62, size := 1, bytes := 8, zero := [.nilp] } := by kernel_rfl
theorem Try.td62 : aW Try.prog 62 = some { k := .struct [(0, 24, 4), (4, 27, 1)], size := 5, bytes := 88, zero := [.int .i64 0, .int .i64 0, .nils, .nils, .nils] } := by kernel_rfl
theorem Try.st62 : j6 Try.prog 62 = some ([(0, 24, 4), (4, 27, 1)], [.int .i64 0, .int .i64 0, .nils, .nils, .nils]) := by kernel_rfl
theorem Try.td66 : aW Try.prog 66 = some { k := .struct [(0, 41, 1), (1, 41, 1)], size := 2, bytes := 48, zero := [.nils, .nils] } := by kernel_rfl
theorem Try.st66 : j6 Try.prog 66 = some ([(0, 41, 1), (1, 41, 1)], [.nils, .nils]) := by kernel_rfl
theorem Try.td77 : aW Try.prog 77 = some { k := .other, size := 1, bytes := 8, zero := [.junk] } := by kernel_rfl
theorem Try.td91 : aW Try.prog 91 = some { k := .slice 66, size := 1, bytes := 24, zero := [.nils] } := by kernel_rfl
theorem Try.el91 : gA Try.prog 91 = some { e := 66, size := 2, bytes := 48, zero := [.nils, .nils], t := .pair (.list (.int .i64)) (.pair (.list (.int .i64)) (.unit)) } := by kernel_rfl
theorem Try.td107 : aW Try.prog 107 = some { k := .slice 4, size := 1, bytes := 24, zero := [.nils] } := by kernel_rfl
theorem Try.el107 : gA Try.prog 107 = some { e := 4, size := 1, bytes := 1, zero := [.bool false], t := .bool } := by kernel_rfl
theorem Try.td117 : aW Try.prog 117 = some { k := .struct [(0, 41, 1), (1, 41, 1)], size := 2, bytes := 48, zero := [.nils, .nils] } := by kernel_rfl
theorem Try.st117 : j6 Try.prog 117 = some ([(0, 41, 1), (1, 41, 1)], [.nils, .nils]) := by kernel_rfl
theorem Try.td118 : aW Try.prog 118 = some { k := .slice 117, size := 1, bytes := 24, zero := [.nils] } := by kernel_rfl
theorem Try.el118 : gA Try.prog 118 = some { e := 117, size := 2, bytes := 48, zero := [.nils, .nils], t := .pair (.list (.int .i64)) (.pair (.list (.int .i64)) (.unit)) } := by kernel_rfl
theorem Try.td129 : aW Try.prog 129 = some { k := .slice 5, size := 1, bytes := 24, zero := [.nils] } := by kernel_rfl
theorem Try.el129 : gA Try.prog 129 = some { e := 5, size := 1, bytes := 1, zero := [.int .u8 0], t := .int .u8 } := by kernel_rfl
theorem Try.td132 : aW Try.prog 132 = some { k := .int .u64, size := 1, bytes := 8, zero := [.int .u64 0] } := by kernel_rfl
theorem Try.td159 : aW Try.prog 159 = some { k := .array 128 3, size := 128, bytes := 1024, zero := List.replicate 128 (.int .i64 0) } := by kernel_rfl
theorem Try.ea159 : gA Try.prog 159 = none := by kernel_rfl
theorem Try.sa159 : j6 Try.prog 159 = none := by kernel_rfl
theorem Try.mk115 : iX Try.prog 115 = some { k := 9, e := 4, kk := .str, vk := .bool } := by kernel_rfl
theorem Try.mk157 : iX Try.prog 157 = some { k := 159, e := 3, kk := .arr 128, vk := .int } := by kernel_rfl
theorem Try.mixed : Try.prog.follows .mixedOrders = true := by kernel_rfl

end Go.Proofs.Ytoahhklogohehaa
