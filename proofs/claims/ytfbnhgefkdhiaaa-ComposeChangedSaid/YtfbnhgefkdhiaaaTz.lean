/- What the evaluator reads of the types of this seat: each fact by the kernel. Written by a program of mine (tyfacts.py). -/
import Derived.Test.YtfbnhgefkdhiaaaRows
import Derived.Test.YtfbnhgefkdhiaaaLz
namespace Go.Proofs.Ytfbnhgefkdhiaaa
open Go.AV

theorem Try.td1 : tdOf Try.prog 1 = some { k := .other, size := 1, bytes := 8, zero := [.junk] } := by kernel_rfl
theorem Try.td2 : tdOf Try.prog 2 = some { k := .int .i64, size := 1, bytes := 8, zero := [.int .i64 0] } := by kernel_rfl
theorem Try.td3 : tdOf Try.prog 3 = some { k := .int .i64, size := 1, bytes := 8, zero := [.int .i64 0] } := by kernel_rfl
theorem Try.td4 : tdOf Try.prog 4 = some { k := .bool, size := 1, bytes := 1, zero := [.bool false] } := by kernel_rfl
theorem Try.td5 : tdOf Try.prog 5 = some { k := .int .u8, size := 1, bytes := 1, zero := [.int .u8 0] } := by kernel_rfl
theorem Try.td9 : tdOf Try.prog 9 = some { k := .str, size := 1, bytes := 16, zero := [.str []] } := by kernel_rfl
theorem Try.td12 : tdOf Try.prog 12 = some { k := .int .u64, size := 1, bytes := 8, zero := [.int .u64 0] } := by kernel_rfl
theorem Try.td15 : tdOf Try.prog 15 = some { k := .ptr 133, size := 1, bytes := 8, zero := [.nilp] } := by kernel_rfl
theorem Try.td16 : tdOf Try.prog 16 = some { k := .ptr 136, size := 1, bytes := 8, zero := [.nilp] } := by kernel_rfl
theorem Try.td17 : tdOf Try.prog 17 = some { k := .ptr 145, size := 1, bytes := 8, zero := [.nilp] } := by kernel_rfl
theorem Try.td21 : tdOf Try.prog 21 = some { k := .int .i32, size := 1, bytes := 4, zero := [.int .i32 0] } := by kernel_rfl
theorem Try.td22 : tdOf Try.prog 22 = some { k := .slice 33, size := 1, bytes := 24, zero := [.nils] } := by kernel_rfl
theorem Try.el22 : elOf Try.prog 22 = some { e := 33, size := 1, bytes := 24, zero := [.nils], t := .list (.int .i64) } := by kernel_rfl
theorem Try.td23 : tdOf Try.prog 23 = some { k := .struct [(0, 3, 1), (1, 3, 1), (2, 22, 1), (3, 22, 1)], size := 4, bytes := 64, zero := [.int .i64 0, .int .i64 0, .nils, .nils] } := by kernel_rfl
theorem Try.st23 : stOf Try.prog 23 = some ([(0, 3, 1), (1, 3, 1), (2, 22, 1), (3, 22, 1)], [.int .i64 0, .int .i64 0, .nils, .nils]) := by kernel_rfl
theorem Try.td24 : tdOf Try.prog 24 = some { k := .struct [(0, 3, 1), (1, 3, 1), (2, 22, 1), (3, 22, 1)], size := 4, bytes := 64, zero := [.int .i64 0, .int .i64 0, .nils, .nils] } := by kernel_rfl
theorem Try.st24 : stOf Try.prog 24 = some ([(0, 3, 1), (1, 3, 1), (2, 22, 1), (3, 22, 1)], [.int .i64 0, .int .i64 0, .nils, .nils]) := by kernel_rfl
theorem Try.td25 : tdOf Try.prog 25 = some { k := .other, size := 1, bytes := 8, zero := [.junk] } := by kernel_rfl
theorem Try.td26 : tdOf Try.prog 26 = some { k := .other, size := 1, bytes := 8, zero := [.junk] } := by kernel_rfl
theorem Try.td27 : tdOf Try.prog 27 = some { k := .int .i64, size := 1, bytes := 8, zero := [.int .i64 0] } := by kernel_rfl
theorem Try.td29 : tdOf Try.prog 29 = some { k := .other, size := 1, bytes := 8, zero := [.junk] } := by kernel_rfl
theorem Try.td31 : tdOf Try.prog 31 = some { k := .other, size := 1, bytes := 8, zero := [.junk] } := by kernel_rfl
theorem Try.td32 : tdOf Try.prog 32 = some { k := .other, size := 1, bytes := 8, zero := [.junk] } := by kernel_rfl
theorem Try.td33 : tdOf Try.prog 33 = some { k := .slice 3, size := 1, bytes := 24, zero := [.nils] } := by kernel_rfl
theorem Try.el33 : elOf Try.prog 33 = some { e := 3, size := 1, bytes := 8, zero := [.int .i64 0], t := .int .i64 } := by kernel_rfl
theorem Try.td34 : tdOf Try.prog 34 = some { k := .other, size := 1, bytes := 8, zero := [.junk] } := by kernel_rfl
theorem Try.td35 : tdOf Try.prog 35 = some { k := .other, size := 1, bytes := 8, zero := [.junk] } := by kernel_rfl
theorem Try.td36 : tdOf Try.prog 36 = some { k := .other, size := 1, bytes := 8, zero := [.junk] } := by kernel_rfl
theorem Try.td37 : tdOf Try.prog 37 = some { k := .other, size := 1, bytes := 8, zero := [.junk] } := by kernel_rfl
theorem Try.td39 : tdOf Try.prog 39 = some { k := .other, size := 1, bytes := 8, zero := [.junk] } := by kernel_rfl
theorem Try.td40 : tdOf Try.prog 40 = some { k := .other, size := 1, bytes := 8, zero := [.junk] } := by kernel_rfl
theorem Try.td41 : tdOf Try.prog 41 = some { k := .other, size := 1, bytes := 8, zero := [.junk] } := by kernel_rfl
theorem Try.td42 : tdOf Try.prog 42 = some { k := .array 2 33, size := 2, bytes := 48, zero := [.nils, .nils] } := by kernel_rfl
theorem Try.ea42 : elOf Try.prog 42 = none := by kernel_rfl
theorem Try.sa42 : stOf Try.prog 42 = none := by kernel_rfl
theorem Try.td43 : tdOf Try.prog 43 = some { k := .other, size := 1, bytes := 8, zero := [.junk] } := by kernel_rfl
theorem Try.td44 : tdOf Try.prog 44 = some { k := .other, size := 1, bytes := 8, zero := [.junk] } := by kernel_rfl
theorem Try.td45 : tdOf Try.prog 45 = some { k := .other, size := 1, bytes := 8, zero := [.junk] } := by kernel_rfl
theorem Try.td47 : tdOf Try.prog 47 = some { k := .other, size := 1, bytes := 8, zero := [.junk] } := by kernel_rfl
theorem Try.td48 : tdOf Try.prog 48 = some { k := .other, size := 1, bytes := 8, zero := [.junk] } := by kernel_rfl
theorem Try.td49 : tdOf Try.prog 49 = some { k := .other, size := 1, bytes := 8, zero := [.junk] } := by kernel_rfl
theorem Try.td50 : tdOf Try.prog 50 = some { k := .struct [(0, 3, 1), (1, 3, 1)], size := 2, bytes := 16, zero := [.int .i64 0, .int .i64 0] } := by kernel_rfl
theorem Try.fl50 : flatOf Try.prog 50 = some [0, 0] := by kernel_rfl
theorem Try.st50 : stOf Try.prog 50 = some ([(0, 3, 1), (1, 3, 1)], [.int .i64 0, .int .i64 0]) := by kernel_rfl
theorem Try.td51 : tdOf Try.prog 51 = some { k := .struct [(0, 3, 1), (1, 3, 1)], size := 2, bytes := 16, zero := [.int .i64 0, .int .i64 0] } := by kernel_rfl
theorem Try.fl51 : flatOf Try.prog 51 = some [0, 0] := by kernel_rfl
theorem Try.st51 : stOf Try.prog 51 = some ([(0, 3, 1), (1, 3, 1)], [.int .i64 0, .int .i64 0]) := by kernel_rfl
theorem Try.td52 : tdOf Try.prog 52 = some { k := .struct [(0, 51, 2), (2, 3, 1)], size := 3, bytes := 24, zero := [.int .i64 0, .int .i64 0, .int .i64 0] } := by kernel_rfl
theorem Try.st52 : stOf Try.prog 52 = some ([(0, 51, 2), (2, 3, 1)], [.int .i64 0, .int .i64 0, .int .i64 0]) := by kernel_rfl
theorem Try.td53 : tdOf Try.prog 53 = some { k := .struct [(0, 51, 2), (2, 3, 1)], size := 3, bytes := 24, zero := [.int .i64 0, .int .i64 0, .int .i64 0] } := by kernel_rfl
theorem Try.st53 : stOf Try.prog 53 = some ([(0, 51, 2), (2, 3, 1)], [.int .i64 0, .int .i64 0, .int .i64 0]) := by kernel_rfl
theorem Try.td54 : tdOf Try.prog 54 = some { k := .other, size := 1, bytes := 8, zero := [.junk] } := by kernel_rfl
theorem Try.td55 : tdOf Try.prog 55 = some { k := .other, size := 1, bytes := 8, zero := [.junk] } := by kernel_rfl
theorem Try.td56 : tdOf Try.prog 56 = some { k := .other, size := 1, bytes := 8, zero := [.junk] } := by kernel_rfl
theorem Try.td57 : tdOf Try.prog 57 = some { k := .other, size := 1, bytes := 8, zero := [.junk] } := by kernel_rfl
theorem Try.td58 : tdOf Try.prog 58 = some { k := .other, size := 1, bytes := 8, zero := [.junk] } := by kernel_rfl
theorem Try.td59 : tdOf Try.prog 59 = some { k := .other, size := 1, bytes := 8, zero := [.junk] } := by kernel_rfl
theorem Try.td60 : tdOf Try.prog 60 = some { k := .other, size := 1, bytes := 8, zero := [.junk] } := by kernel_rfl
theorem Try.td61 : tdOf Try.prog 61 = some { k := .other, size := 1, bytes := 8, zero := [.junk] } := by kernel_rfl
theorem Try.td63 : tdOf Try.prog 63 = some { k := .other, size := 1, bytes := 8, zero := [.junk] } := by kernel_rfl
theorem Try.td64 : tdOf Try.prog 64 = some { k := .slice 4, size := 1, bytes := 24, zero := [.nils] } := by kernel_rfl
theorem Try.el64 : elOf Try.prog 64 = some { e := 4, size := 1, bytes := 1, zero := [.bool false], t := .bool } := by kernel_rfl
theorem Try.td65 : tdOf Try.prog 65 = some { k := .other, size := 1, bytes := 8, zero := [.junk] } := by kernel_rfl
theorem Try.td67 : tdOf Try.prog 67 = some { k := .other, size := 1, bytes := 8, zero := [.junk] } := by kernel_rfl
theorem Try.td68 : tdOf Try.prog 68 = some { k := .other, size := 1, bytes := 8, zero := [.junk] } := by kernel_rfl
theorem Try.td69 : tdOf Try.prog 69 = some { k := .slice 51, size := 1, bytes := 24, zero := [.nils] } := by kernel_rfl
theorem Try.el69 : elOf Try.prog 69 = some { e := 51, size := 2, bytes := 16, zero := [.int .i64 0, .int .i64 0], t := .pair (.int .i64) (.pair (.int .i64) (.unit)) } := by kernel_rfl
theorem Try.td70 : tdOf Try.prog 70 = some { k := .struct [(0, 3, 1), (1, 3, 1), (2, 3, 1)], size := 3, bytes := 24, zero := [.int .i64 0, .int .i64 0, .int .i64 0] } := by kernel_rfl
theorem Try.fl70 : flatOf Try.prog 70 = some [0, 0, 0] := by kernel_rfl
theorem Try.st70 : stOf Try.prog 70 = some ([(0, 3, 1), (1, 3, 1), (2, 3, 1)], [.int .i64 0, .int .i64 0, .int .i64 0]) := by kernel_rfl
theorem Try.td71 : tdOf Try.prog 71 = some { k := .struct [(0, 3, 1), (1, 3, 1), (2, 3, 1)], size := 3, bytes := 24, zero := [.int .i64 0, .int .i64 0, .int .i64 0] } := by kernel_rfl
theorem Try.fl71 : flatOf Try.prog 71 = some [0, 0, 0] := by kernel_rfl
theorem Try.st71 : stOf Try.prog 71 = some ([(0, 3, 1), (1, 3, 1), (2, 3, 1)], [.int .i64 0, .int .i64 0, .int .i64 0]) := by kernel_rfl
theorem Try.td72 : tdOf Try.prog 72 = some { k := .slice 71, size := 1, bytes := 24, zero := [.nils] } := by kernel_rfl
theorem Try.el72 : elOf Try.prog 72 = some { e := 71, size := 3, bytes := 24, zero := [.int .i64 0, .int .i64 0, .int .i64 0], t := .pair (.int .i64) (.pair (.int .i64) (.pair (.int .i64) (.unit))) } := by kernel_rfl
theorem Try.td73 : tdOf Try.prog 73 = some { k := .other, size := 1, bytes := 8, zero := [.junk] } := by kernel_rfl
theorem Try.td74 : tdOf Try.prog 74 = some { k := .other, size := 1, bytes := 8, zero := [.junk] } := by kernel_rfl
theorem Try.td75 : tdOf Try.prog 75 = some { k := .other, size := 1, bytes := 8, zero := [.junk] } := by kernel_rfl
theorem Try.td76 : tdOf Try.prog 76 = some { k := .other, size := 1, bytes := 8, zero := [.junk] } := by kernel_rfl
theorem Try.td77 : tdOf Try.prog 77 = some { k := .other, size := 1, bytes := 8, zero := [.junk] } := by kernel_rfl
theorem Try.td78 : tdOf Try.prog 78 = some { k := .other, size := 1, bytes := 8, zero := [.junk] } := by kernel_rfl
theorem Try.td79 : tdOf Try.prog 79 = some { k := .ptr 83, size := 1, bytes := 8, zero := [.nilp] } := by kernel_rfl
theorem Try.td80 : tdOf Try.prog 80 = some { k := .struct [(0, 24, 4)], size := 4, bytes := 64, zero := [.int .i64 0, .int .i64 0, .nils, .nils] } := by kernel_rfl
theorem Try.st80 : stOf Try.prog 80 = some ([(0, 24, 4)], [.int .i64 0, .int .i64 0, .nils, .nils]) := by kernel_rfl
theorem Try.td81 : tdOf Try.prog 81 = some { k := .struct [(0, 24, 4)], size := 4, bytes := 64, zero := [.int .i64 0, .int .i64 0, .nils, .nils] } := by kernel_rfl
theorem Try.st81 : stOf Try.prog 81 = some ([(0, 24, 4)], [.int .i64 0, .int .i64 0, .nils, .nils]) := by kernel_rfl
theorem Try.td82 : tdOf Try.prog 82 = some { k := .struct [(0, 81, 4), (4, 3, 1)], size := 5, bytes := 72, zero := [.int .i64 0, .int .i64 0, .nils, .nils, .int .i64 0] } := by kernel_rfl
theorem Try.st82 : stOf Try.prog 82 = some ([(0, 81, 4), (4, 3, 1)], [.int .i64 0, .int .i64 0, .nils, .nils, .int .i64 0]) := by kernel_rfl
theorem Try.td83 : tdOf Try.prog 83 = some { k := .struct [(0, 81, 4), (4, 3, 1)], size := 5, bytes := 72, zero := [.int .i64 0, .int .i64 0, .nils, .nils, .int .i64 0] } := by kernel_rfl
theorem Try.st83 : stOf Try.prog 83 = some ([(0, 81, 4), (4, 3, 1)], [.int .i64 0, .int .i64 0, .nils, .nils, .int .i64 0]) := by kernel_rfl
theorem Try.td84 : tdOf Try.prog 84 = some { k := .other, size := 1, bytes := 8, zero := [.junk] } := by kernel_rfl
theorem Try.td86 : tdOf Try.prog 86 = some { k := .other, size := 1, bytes := 8, zero := [.junk] } := by kernel_rfl
theorem Try.td87 : tdOf Try.prog 87 = some { k := .struct [(0, 3, 1), (1, 3, 1)], size := 2, bytes := 16, zero := [.int .i64 0, .int .i64 0] } := by kernel_rfl
theorem Try.fl87 : flatOf Try.prog 87 = some [0, 0] := by kernel_rfl
theorem Try.st87 : stOf Try.prog 87 = some ([(0, 3, 1), (1, 3, 1)], [.int .i64 0, .int .i64 0]) := by kernel_rfl
theorem Try.td88 : tdOf Try.prog 88 = some { k := .struct [(0, 3, 1), (1, 3, 1)], size := 2, bytes := 16, zero := [.int .i64 0, .int .i64 0] } := by kernel_rfl
theorem Try.fl88 : flatOf Try.prog 88 = some [0, 0] := by kernel_rfl
theorem Try.st88 : stOf Try.prog 88 = some ([(0, 3, 1), (1, 3, 1)], [.int .i64 0, .int .i64 0]) := by kernel_rfl
theorem Try.td89 : tdOf Try.prog 89 = some { k := .other, size := 1, bytes := 8, zero := [.junk] } := by kernel_rfl
theorem Try.td90 : tdOf Try.prog 90 = some { k := .other, size := 1, bytes := 8, zero := [.junk] } := by kernel_rfl
theorem Try.td91 : tdOf Try.prog 91 = some { k := .int .u64, size := 1, bytes := 8, zero := [.int .u64 0] } := by kernel_rfl
theorem Try.td92 : tdOf Try.prog 92 = some { k := .other, size := 1, bytes := 8, zero := [.junk] } := by kernel_rfl
theorem Try.td93 : tdOf Try.prog 93 = some { k := .other, size := 1, bytes := 8, zero := [.junk] } := by kernel_rfl
theorem Try.td95 : tdOf Try.prog 95 = some { k := .other, size := 1, bytes := 8, zero := [.junk] } := by kernel_rfl
theorem Try.td97 : tdOf Try.prog 97 = some { k := .other, size := 1, bytes := 8, zero := [.junk] } := by kernel_rfl
theorem Try.td98 : tdOf Try.prog 98 = some { k := .array 2 24, size := 8, bytes := 128, zero := [.int .i64 0, .int .i64 0, .nils, .nils, .int .i64 0, .int .i64 0, .nils, .nils] } := by kernel_rfl
theorem Try.ea98 : elOf Try.prog 98 = none := by kernel_rfl
theorem Try.sa98 : stOf Try.prog 98 = none := by kernel_rfl
theorem Try.td99 : tdOf Try.prog 99 = some { k := .slice 64, size := 1, bytes := 24, zero := [.nils] } := by kernel_rfl
theorem Try.el99 : elOf Try.prog 99 = some { e := 64, size := 1, bytes := 24, zero := [.nils], t := .list .bool } := by kernel_rfl
theorem Try.td100 : tdOf Try.prog 100 = some { k := .struct [(0, 88, 2), (2, 33, 1)], size := 3, bytes := 40, zero := [.int .i64 0, .int .i64 0, .nils] } := by kernel_rfl
theorem Try.st100 : stOf Try.prog 100 = some ([(0, 88, 2), (2, 33, 1)], [.int .i64 0, .int .i64 0, .nils]) := by kernel_rfl
theorem Try.td101 : tdOf Try.prog 101 = some { k := .struct [(0, 88, 2), (2, 33, 1)], size := 3, bytes := 40, zero := [.int .i64 0, .int .i64 0, .nils] } := by kernel_rfl
theorem Try.st101 : stOf Try.prog 101 = some ([(0, 88, 2), (2, 33, 1)], [.int .i64 0, .int .i64 0, .nils]) := by kernel_rfl
theorem Try.td102 : tdOf Try.prog 102 = some { k := .slice 101, size := 1, bytes := 24, zero := [.nils] } := by kernel_rfl
theorem Try.el102 : elOf Try.prog 102 = some { e := 101, size := 3, bytes := 40, zero := [.int .i64 0, .int .i64 0, .nils], t := .pair (.pair (.int .i64) (.pair (.int .i64) (.unit))) (.pair (.list (.int .i64)) (.unit)) } := by kernel_rfl
theorem Try.td103 : tdOf Try.prog 103 = some { k := .other, size := 1, bytes := 8, zero := [.junk] } := by kernel_rfl
theorem Try.td104 : tdOf Try.prog 104 = some { k := .other, size := 1, bytes := 8, zero := [.junk] } := by kernel_rfl
theorem Try.td105 : tdOf Try.prog 105 = some { k := .int .i64, size := 1, bytes := 8, zero := [.int .i64 0] } := by kernel_rfl
theorem Try.td107 : tdOf Try.prog 107 = some { k := .other, size := 1, bytes := 8, zero := [.junk] } := by kernel_rfl
theorem Try.td108 : tdOf Try.prog 108 = some { k := .other, size := 1, bytes := 8, zero := [.junk] } := by kernel_rfl
theorem Try.td109 : tdOf Try.prog 109 = some { k := .other, size := 1, bytes := 8, zero := [.junk] } := by kernel_rfl
theorem Try.td110 : tdOf Try.prog 110 = some { k := .other, size := 1, bytes := 8, zero := [.junk] } := by kernel_rfl
theorem Try.td112 : tdOf Try.prog 112 = some { k := .other, size := 1, bytes := 8, zero := [.junk] } := by kernel_rfl
theorem Try.td113 : tdOf Try.prog 113 = some { k := .other, size := 1, bytes := 8, zero := [.junk] } := by kernel_rfl
theorem Try.td114 : tdOf Try.prog 114 = some { k := .int .u32, size := 1, bytes := 4, zero := [.int .u32 0] } := by kernel_rfl
theorem Try.td115 : tdOf Try.prog 115 = some { k := .other, size := 1, bytes := 8, zero := [.junk] } := by kernel_rfl
theorem Try.td116 : tdOf Try.prog 116 = some { k := .int .u64, size := 1, bytes := 8, zero := [.int .u64 0] } := by kernel_rfl
theorem Try.td117 : tdOf Try.prog 117 = some { k := .other, size := 1, bytes := 8, zero := [.junk] } := by kernel_rfl
theorem Try.td118 : tdOf Try.prog 118 = some { k := .other, size := 1, bytes := 8, zero := [.junk] } := by kernel_rfl
theorem Try.td119 : tdOf Try.prog 119 = some { k := .int .u64, size := 1, bytes := 8, zero := [.int .u64 0] } := by kernel_rfl
theorem Try.td120 : tdOf Try.prog 120 = some { k := .other, size := 1, bytes := 8, zero := [.junk] } := by kernel_rfl
theorem Try.td121 : tdOf Try.prog 121 = some { k := .other, size := 1, bytes := 8, zero := [.junk] } := by kernel_rfl
theorem Try.td122 : tdOf Try.prog 122 = some { k := .other, size := 1, bytes := 8, zero := [.junk] } := by kernel_rfl
theorem Try.td123 : tdOf Try.prog 123 = some { k := .ptr 3, size := 1, bytes := 8, zero := [.nilp] } := by kernel_rfl
theorem Try.td124 : tdOf Try.prog 124 = some { k := .other, size := 1, bytes := 8, zero := [.junk] } := by kernel_rfl
theorem Try.td126 : tdOf Try.prog 126 = some { k := .array 128 3, size := 128, bytes := 1024, zero := List.replicate 128 (.int .i64 0) } := by kernel_rfl
theorem Try.ea126 : elOf Try.prog 126 = none := by kernel_rfl
theorem Try.sa126 : stOf Try.prog 126 = none := by kernel_rfl
theorem Try.td127 : tdOf Try.prog 127 = some { k := .array 128 3, size := 128, bytes := 1024, zero := List.replicate 128 (.int .i64 0) } := by kernel_rfl
theorem Try.ea127 : elOf Try.prog 127 = none := by kernel_rfl
theorem Try.sa127 : stOf Try.prog 127 = none := by kernel_rfl
theorem Try.td128 : tdOf Try.prog 128 = some { k := .other, size := 1, bytes := 8, zero := [.junk] } := by kernel_rfl
theorem Try.td129 : tdOf Try.prog 129 = some { k := .ptr 119, size := 1, bytes := 8, zero := [.nilp] } := by kernel_rfl
theorem Try.td130 : tdOf Try.prog 130 = some { k := .other, size := 1, bytes := 8, zero := [.junk] } := by kernel_rfl
theorem Try.td131 : tdOf Try.prog 131 = some { k := .other, size := 1, bytes := 8, zero := [.junk] } := by kernel_rfl
theorem Try.td134 : tdOf Try.prog 134 = some { k := .array 0 16, size := 0, bytes := 0, zero := [] } := by kernel_rfl
theorem Try.ea134 : elOf Try.prog 134 = none := by kernel_rfl
theorem Try.sa134 : stOf Try.prog 134 = none := by kernel_rfl
theorem Try.td137 : tdOf Try.prog 137 = some { k := .other, size := 1, bytes := 8, zero := [.junk] } := by kernel_rfl
theorem Try.td140 : tdOf Try.prog 140 = some { k := .other, size := 1, bytes := 8, zero := [.junk] } := by kernel_rfl
theorem Try.td141 : tdOf Try.prog 141 = some { k := .ptr 5, size := 1, bytes := 8, zero := [.nilp] } := by kernel_rfl
theorem Try.td144 : tdOf Try.prog 144 = some { k := .struct [(0, 12, 1), (1, 12, 1), (2, 114, 1), (3, 138, 1), (4, 5, 1), (5, 5, 1), (6, 139, 1), (7, 140, 1), (8, 141, 1), (9, 142, 1), (10, 143, 1)], size := 11, bytes := 48, zero := [.int .u64 0, .int .u64 0, .int .u32 0, .int .u8 0, .int .u8 0, .int .u8 0, .int .u8 0, .junk, .nilp, .int .i32 0, .int .i32 0] } := by kernel_rfl
theorem Try.st144 : stOf Try.prog 144 = some ([(0, 12, 1), (1, 12, 1), (2, 114, 1), (3, 138, 1), (4, 5, 1), (5, 5, 1), (6, 139, 1), (7, 140, 1), (8, 141, 1), (9, 142, 1), (10, 143, 1)], [.int .u64 0, .int .u64 0, .int .u32 0, .int .u8 0, .int .u8 0, .int .u8 0, .int .u8 0, .junk, .nilp, .int .i32 0, .int .i32 0]) := by kernel_rfl
theorem Try.mk125 : mkOf Try.prog 125 = some { k := 127, e := 3, kk := .arr 128, vk := .int } := by kernel_rfl
theorem Try.mixed : Try.prog.follows .mixedOrders = true := by kernel_rfl

end Go.Proofs.Ytfbnhgefkdhiaaa
