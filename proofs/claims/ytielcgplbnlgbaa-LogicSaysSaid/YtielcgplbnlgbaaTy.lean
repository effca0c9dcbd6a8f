/- The types of this translation, as the logic needs them. -/
import Derived.Test.YtielcgplbnlgbaaMl20
import Derived.Test.YtielcgplbnlgbaaRows
import Derived.KernelRfl
namespace Go.Proofs.Ytielcgplbnlgbaa
theorem td1 : td Try.prog 1 = { ok := true, size := 1, bytes := 8, zok := true, zero := [.nilfn], k := .func } := by kernel_rfl
theorem td2 : td Try.prog 2 = { ok := true, size := 1, bytes := 8, zok := true, zero := [.int .i64 0], k := .int .i64 } := by kernel_rfl
theorem td3 : td Try.prog 3 = { ok := true, size := 1, bytes := 8, zok := true, zero := [.int .i64 0], k := .int .i64 } := by kernel_rfl
theorem td4 : td Try.prog 4 = { ok := true, size := 1, bytes := 1, zok := true, zero := [.bool false], k := .bool } := by kernel_rfl
theorem td5 : td Try.prog 5 = { ok := true, size := 1, bytes := 1, zok := true, zero := [.int .u8 0], k := .int .u8 } := by kernel_rfl
theorem td6 : td Try.prog 6 = { ok := true, size := 1, bytes := 1, zok := true, zero := [.int .u8 0], k := .int .u8 } := by kernel_rfl
theorem td7 : td Try.prog 7 = { ok := true, size := 4, bytes := 24, zok := true, zero := [.int .i64 0, .int .i64 0, .bool false, .int .u8 0], k := .struct [(0, 2), (1, 3), (2, 4), (3, 6)] } := by kernel_rfl
theorem td8 : td Try.prog 8 = { ok := true, size := 4, bytes := 24, zok := true, zero := [.int .i64 0, .int .i64 0, .bool false, .int .u8 0], k := .struct [(0, 2), (1, 3), (2, 4), (3, 6)] } := by kernel_rfl
theorem td9 : td Try.prog 9 = { ok := true, size := 1, bytes := 16, zok := true, zero := [.str ⟨#[]⟩], k := .str } := by kernel_rfl
theorem td10 : td Try.prog 10 = { ok := true, size := 1, bytes := 16, zok := true, zero := [.str ⟨#[]⟩], k := .str } := by kernel_rfl
theorem td11 : td Try.prog 11 = { ok := true, size := 1, bytes := 16, zok := true, zero := [.str ⟨#[]⟩], k := .str } := by kernel_rfl
theorem td12 : td Try.prog 12 = { ok := true, size := 1, bytes := 8, zok := true, zero := [.int .u64 0], k := .int .u64 } := by kernel_rfl
theorem td13 : td Try.prog 13 = { ok := true, size := 2, bytes := 24, zok := true, zero := [.str ⟨#[]⟩, .int .u64 0], k := .struct [(0, 9), (1, 12)] } := by kernel_rfl
theorem td14 : td Try.prog 14 = { ok := true, size := 2, bytes := 24, zok := true, zero := [.str ⟨#[]⟩, .int .u64 0], k := .struct [(0, 9), (1, 12)] } := by kernel_rfl
theorem td15 : td Try.prog 15 = { ok := true, size := 1, bytes := 8, zok := true, zero := [.nilp], k := .ptr 136 } := by kernel_rfl
theorem td16 : td Try.prog 16 = { ok := true, size := 1, bytes := 8, zok := true, zero := [.nilp], k := .ptr 139 } := by kernel_rfl
theorem td17 : td Try.prog 17 = { ok := true, size := 1, bytes := 8, zok := true, zero := [.nilp], k := .ptr 148 } := by kernel_rfl
theorem td18 : td Try.prog 18 = { ok := true, size := 1, bytes := 8, zok := true, zero := [.nilp], k := .struct [(0, 17)] } := by kernel_rfl
theorem td19 : td Try.prog 19 = { ok := true, size := 1, bytes := 8, zok := true, zero := [.nilp], k := .struct [(0, 17)] } := by kernel_rfl
theorem td20 : td Try.prog 20 = { ok := true, size := 1, bytes := 16, zok := true, zero := [.nili], k := .iface } := by kernel_rfl
theorem td21 : td Try.prog 21 = { ok := true, size := 1, bytes := 4, zok := true, zero := [.int .i32 0], k := .int .i32 } := by kernel_rfl
theorem td22 : td Try.prog 22 = { ok := true, size := 1, bytes := 24, zok := true, zero := [.nils], k := .slice 49 } := by kernel_rfl
theorem td23 : td Try.prog 23 = { ok := true, size := 1, bytes := 8, zok := true, zero := [.nilfn], k := .func } := by kernel_rfl
theorem td24 : td Try.prog 24 = { ok := true, size := 1, bytes := 8, zok := true, zero := [.nilfn], k := .func } := by kernel_rfl
theorem td25 : td Try.prog 25 = { ok := true, size := 1, bytes := 8, zok := true, zero := [.nilfn], k := .func } := by kernel_rfl
theorem td26 : td Try.prog 26 = { ok := true, size := 1, bytes := 8, zok := true, zero := [.nilfn], k := .func } := by kernel_rfl
theorem td27 : td Try.prog 27 = { ok := true, size := 1, bytes := 8, zok := true, zero := [.int .i64 0], k := .int .i64 } := by kernel_rfl
theorem td29 : td Try.prog 29 = { ok := true, size := 1, bytes := 8, zok := true, zero := [.nilfn], k := .func } := by kernel_rfl
theorem td30 : td Try.prog 30 = { ok := true, size := 1, bytes := 4, zok := true, zero := [.int .u32 0], k := .int .u32 } := by kernel_rfl
theorem td31 : td Try.prog 31 = { ok := true, size := 3, bytes := 32, zok := true, zero := [.int .i64 0, .int .i64 0, .str ⟨#[]⟩], k := .struct [(0, 3), (1, 3), (2, 9)] } := by kernel_rfl
theorem td32 : td Try.prog 32 = { ok := true, size := 3, bytes := 32, zok := true, zero := [.int .i64 0, .int .i64 0, .str ⟨#[]⟩], k := .struct [(0, 3), (1, 3), (2, 9)] } := by kernel_rfl
theorem td33 : td Try.prog 33 = { ok := true, size := 24, bytes := 256, zok := true, zero := [.int .i64 0, .int .i64 0, .str ⟨#[]⟩, .int .i64 0, .int .i64 0, .str ⟨#[]⟩, .int .i64 0, .int .i64 0, .str ⟨#[]⟩, .int .i64 0, .int .i64 0, .str ⟨#[]⟩, .int .i64 0, .int .i64 0, .str ⟨#[]⟩, .int .i64 0, .int .i64 0, .str ⟨#[]⟩, .int .i64 0, .int .i64 0, .str ⟨#[]⟩, .int .i64 0, .int .i64 0, .str ⟨#[]⟩], k := .array 8 32 } := by kernel_rfl
theorem td34 : td Try.prog 34 = { ok := true, size := 27, bytes := 280, zok := true, zero := [.int .i64 0, .int .i64 0, .int .u32 0, .int .i64 0, .int .i64 0, .str ⟨#[]⟩, .int .i64 0, .int .i64 0, .str ⟨#[]⟩, .int .i64 0, .int .i64 0, .str ⟨#[]⟩, .int .i64 0, .int .i64 0, .str ⟨#[]⟩, .int .i64 0, .int .i64 0, .str ⟨#[]⟩, .int .i64 0, .int .i64 0, .str ⟨#[]⟩, .int .i64 0, .int .i64 0, .str ⟨#[]⟩, .int .i64 0, .int .i64 0, .str ⟨#[]⟩], k := .struct [(0, 3), (1, 3), (2, 30), (3, 33)] } := by kernel_rfl
theorem td35 : td Try.prog 35 = { ok := true, size := 27, bytes := 280, zok := true, zero := [.int .i64 0, .int .i64 0, .int .u32 0, .int .i64 0, .int .i64 0, .str ⟨#[]⟩, .int .i64 0, .int .i64 0, .str ⟨#[]⟩, .int .i64 0, .int .i64 0, .str ⟨#[]⟩, .int .i64 0, .int .i64 0, .str ⟨#[]⟩, .int .i64 0, .int .i64 0, .str ⟨#[]⟩, .int .i64 0, .int .i64 0, .str ⟨#[]⟩, .int .i64 0, .int .i64 0, .str ⟨#[]⟩, .int .i64 0, .int .i64 0, .str ⟨#[]⟩], k := .struct [(0, 3), (1, 3), (2, 30), (3, 33)] } := by kernel_rfl
theorem td36 : td Try.prog 36 = { ok := true, size := 28, bytes := 288, zok := true, zero := [.int .i64 0, .int .i64 0, .int .u32 0, .int .i64 0, .int .i64 0, .str ⟨#[]⟩, .int .i64 0, .int .i64 0, .str ⟨#[]⟩, .int .i64 0, .int .i64 0, .str ⟨#[]⟩, .int .i64 0, .int .i64 0, .str ⟨#[]⟩, .int .i64 0, .int .i64 0, .str ⟨#[]⟩, .int .i64 0, .int .i64 0, .str ⟨#[]⟩, .int .i64 0, .int .i64 0, .str ⟨#[]⟩, .int .i64 0, .int .i64 0, .str ⟨#[]⟩, .int .u32 0], k := .struct [(0, 35), (27, 30)] } := by kernel_rfl
theorem td37 : td Try.prog 37 = { ok := true, size := 28, bytes := 288, zok := true, zero := [.int .i64 0, .int .i64 0, .int .u32 0, .int .i64 0, .int .i64 0, .str ⟨#[]⟩, .int .i64 0, .int .i64 0, .str ⟨#[]⟩, .int .i64 0, .int .i64 0, .str ⟨#[]⟩, .int .i64 0, .int .i64 0, .str ⟨#[]⟩, .int .i64 0, .int .i64 0, .str ⟨#[]⟩, .int .i64 0, .int .i64 0, .str ⟨#[]⟩, .int .i64 0, .int .i64 0, .str ⟨#[]⟩, .int .i64 0, .int .i64 0, .str ⟨#[]⟩, .int .u32 0], k := .struct [(0, 35), (27, 30)] } := by kernel_rfl
theorem td38 : td Try.prog 38 = { ok := true, size := 1, bytes := 8, zok := true, zero := [.nilfn], k := .func } := by kernel_rfl
theorem td39 : td Try.prog 39 = { ok := true, size := 1, bytes := 8, zok := true, zero := [.nilfn], k := .func } := by kernel_rfl
theorem td40 : td Try.prog 40 = { ok := true, size := 1, bytes := 8, zok := true, zero := [.nilfn], k := .func } := by kernel_rfl
theorem td41 : td Try.prog 41 = { ok := true, size := 1, bytes := 8, zok := true, zero := [.nilfn], k := .func } := by kernel_rfl
theorem td42 : td Try.prog 42 = { ok := true, size := 1, bytes := 8, zok := true, zero := [.nilfn], k := .func } := by kernel_rfl
theorem td43 : td Try.prog 43 = { ok := true, size := 1, bytes := 8, zok := true, zero := [.nilfn], k := .func } := by kernel_rfl
theorem td44 : td Try.prog 44 = { ok := true, size := 1, bytes := 8, zok := true, zero := [.nilfn], k := .func } := by kernel_rfl
theorem td45 : td Try.prog 45 = { ok := true, size := 1, bytes := 24, zok := true, zero := [.nils], k := .slice 22 } := by kernel_rfl
theorem td46 : td Try.prog 46 = { ok := true, size := 1, bytes := 8, zok := true, zero := [.nilfn], k := .func } := by kernel_rfl
theorem td47 : td Try.prog 47 = { ok := true, size := 1, bytes := 8, zok := true, zero := [.nilfn], k := .func } := by kernel_rfl
theorem td48 : td Try.prog 48 = { ok := true, size := 5, bytes := 48, zok := true, zero := [.int .i64 0, .int .i64 0, .int .i64 0, .int .i64 0, .str ⟨#[]⟩], k := .struct [(0, 3), (1, 3), (2, 32)] } := by kernel_rfl
theorem td49 : td Try.prog 49 = { ok := true, size := 5, bytes := 48, zok := true, zero := [.int .i64 0, .int .i64 0, .int .i64 0, .int .i64 0, .str ⟨#[]⟩], k := .struct [(0, 3), (1, 3), (2, 32)] } := by kernel_rfl
theorem td50 : td Try.prog 50 = { ok := true, size := 1, bytes := 8, zok := true, zero := [.nilfn], k := .func } := by kernel_rfl
theorem td51 : td Try.prog 51 = { ok := true, size := 1, bytes := 8, zok := true, zero := [.nilfn], k := .func } := by kernel_rfl
theorem td52 : td Try.prog 52 = { ok := true, size := 1, bytes := 8, zok := true, zero := [.int .u64 0], k := .int .u64 } := by kernel_rfl
theorem td53 : td Try.prog 53 = { ok := true, size := 16, bytes := 128, zok := true, zero := [.int .u64 0, .int .u64 0, .int .u64 0, .int .u64 0, .int .u64 0, .int .u64 0, .int .u64 0, .int .u64 0, .int .u64 0, .int .u64 0, .int .u64 0, .int .u64 0, .int .u64 0, .int .u64 0, .int .u64 0, .int .u64 0], k := .array 16 52 } := by kernel_rfl
theorem td54 : td Try.prog 54 = { ok := true, size := 16, bytes := 128, zok := true, zero := [.int .u64 0, .int .u64 0, .int .u64 0, .int .u64 0, .int .u64 0, .int .u64 0, .int .u64 0, .int .u64 0, .int .u64 0, .int .u64 0, .int .u64 0, .int .u64 0, .int .u64 0, .int .u64 0, .int .u64 0, .int .u64 0], k := .array 16 52 } := by kernel_rfl
theorem td56 : td Try.prog 56 = { ok := true, size := 1, bytes := 8, zok := true, zero := [.nilfn], k := .func } := by kernel_rfl
theorem td57 : td Try.prog 57 = { ok := true, size := 1, bytes := 8, zok := true, zero := [.nilfn], k := .func } := by kernel_rfl
theorem td58 : td Try.prog 58 = { ok := true, size := 1, bytes := 8, zok := true, zero := [.nilfn], k := .func } := by kernel_rfl
theorem td59 : td Try.prog 59 = { ok := true, size := 1, bytes := 8, zok := true, zero := [.nilfn], k := .func } := by kernel_rfl
theorem td60 : td Try.prog 60 = { ok := true, size := 1, bytes := 8, zok := true, zero := [.nilfn], k := .func } := by kernel_rfl
theorem td61 : td Try.prog 61 = { ok := true, size := 1, bytes := 8, zok := true, zero := [.nilfn], k := .func } := by kernel_rfl
theorem td62 : td Try.prog 62 = { ok := true, size := 1, bytes := 8, zok := true, zero := [.nilfn], k := .func } := by kernel_rfl
theorem td64 : td Try.prog 64 = { ok := true, size := 1, bytes := 8, zok := true, zero := [.nilfn], k := .func } := by kernel_rfl
theorem td65 : td Try.prog 65 = { ok := true, size := 1, bytes := 8, zok := true, zero := [.nilfn], k := .func } := by kernel_rfl
theorem td66 : td Try.prog 66 = { ok := true, size := 1, bytes := 8, zok := true, zero := [.nilfn], k := .func } := by kernel_rfl
theorem td67 : td Try.prog 67 = { ok := true, size := 1, bytes := 8, zok := true, zero := [.nilfn], k := .func } := by kernel_rfl
theorem td69 : td Try.prog 69 = { ok := true, size := 1, bytes := 8, zok := true, zero := [.nilfn], k := .func } := by kernel_rfl
theorem td70 : td Try.prog 70 = { ok := true, size := 1, bytes := 8, zok := true, zero := [.nilfn], k := .func } := by kernel_rfl
theorem td71 : td Try.prog 71 = { ok := true, size := 1, bytes := 8, zok := true, zero := [.nilfn], k := .func } := by kernel_rfl
theorem td72 : td Try.prog 72 = { ok := true, size := 1, bytes := 8, zok := true, zero := [.nilfn], k := .func } := by kernel_rfl
theorem td73 : td Try.prog 73 = { ok := true, size := 1, bytes := 8, zok := true, zero := [.nilfn], k := .func } := by kernel_rfl
theorem td74 : td Try.prog 74 = { ok := true, size := 1, bytes := 8, zok := true, zero := [.nilfn], k := .func } := by kernel_rfl
theorem td75 : td Try.prog 75 = { ok := true, size := 1, bytes := 8, zok := true, zero := [.int .u64 0], k := .int .u64 } := by kernel_rfl
theorem td77 : td Try.prog 77 = { ok := true, size := 1, bytes := 8, zok := true, zero := [.nilfn], k := .func } := by kernel_rfl
theorem td78 : td Try.prog 78 = { ok := true, size := 1, bytes := 8, zok := true, zero := [.nilfn], k := .func } := by kernel_rfl
theorem td79 : td Try.prog 79 = { ok := true, size := 1, bytes := 8, zok := true, zero := [.nilfn], k := .func } := by kernel_rfl
theorem td80 : td Try.prog 80 = { ok := true, size := 1, bytes := 8, zok := true, zero := [.nilfn], k := .func } := by kernel_rfl
theorem td81 : td Try.prog 81 = { ok := true, size := 1, bytes := 8, zok := true, zero := [.nilfn], k := .func } := by kernel_rfl
theorem td82 : td Try.prog 82 = { ok := true, size := 1, bytes := 8, zok := true, zero := [.nilfn], k := .func } := by kernel_rfl
theorem td83 : td Try.prog 83 = { ok := true, size := 1, bytes := 8, zok := true, zero := [.nilfn], k := .func } := by kernel_rfl
theorem td84 : td Try.prog 84 = { ok := true, size := 1, bytes := 8, zok := true, zero := [.nilfn], k := .func } := by kernel_rfl
theorem td85 : td Try.prog 85 = { ok := true, size := 1, bytes := 8, zok := true, zero := [.nilfn], k := .func } := by kernel_rfl
theorem td86 : td Try.prog 86 = { ok := true, size := 1, bytes := 8, zok := true, zero := [.nilfn], k := .func } := by kernel_rfl
theorem td87 : td Try.prog 87 = { ok := true, size := 1, bytes := 8, zok := true, zero := [.nilfn], k := .func } := by kernel_rfl
theorem td88 : td Try.prog 88 = { ok := true, size := 1, bytes := 8, zok := true, zero := [.nilfn], k := .func } := by kernel_rfl
theorem td89 : td Try.prog 89 = { ok := true, size := 1, bytes := 8, zok := true, zero := [.nilfn], k := .func } := by kernel_rfl
theorem td90 : td Try.prog 90 = { ok := true, size := 1, bytes := 8, zok := true, zero := [.int .i64 0], k := .int .i64 } := by kernel_rfl
theorem td92 : td Try.prog 92 = { ok := true, size := 1, bytes := 8, zok := true, zero := [.nilfn], k := .func } := by kernel_rfl
theorem td93 : td Try.prog 93 = { ok := true, size := 1, bytes := 8, zok := true, zero := [.nilfn], k := .func } := by kernel_rfl
theorem td94 : td Try.prog 94 = { ok := true, size := 1, bytes := 8, zok := true, zero := [.nilfn], k := .func } := by kernel_rfl
theorem td95 : td Try.prog 95 = { ok := true, size := 1, bytes := 8, zok := true, zero := [.nilfn], k := .func } := by kernel_rfl
theorem td96 : td Try.prog 96 = { ok := true, size := 1, bytes := 8, zok := true, zero := [.nilfn], k := .func } := by kernel_rfl
theorem td97 : td Try.prog 97 = { ok := true, size := 1, bytes := 8, zok := true, zero := [.nilfn], k := .func } := by kernel_rfl
theorem td98 : td Try.prog 98 = { ok := true, size := 2, bytes := 48, zok := true, zero := [.nils, .nils], k := .array 2 22 } := by kernel_rfl
theorem td99 : td Try.prog 99 = { ok := true, size := 1, bytes := 8, zok := true, zero := [.nilfn], k := .func } := by kernel_rfl
theorem td100 : td Try.prog 100 = { ok := true, size := 1, bytes := 8, zok := true, zero := [.nilfn], k := .func } := by kernel_rfl
theorem td101 : td Try.prog 101 = { ok := true, size := 1, bytes := 8, zok := true, zero := [.nilfn], k := .func } := by kernel_rfl
theorem td102 : td Try.prog 102 = { ok := true, size := 1, bytes := 8, zok := true, zero := [.nilfn], k := .func } := by kernel_rfl
theorem td103 : td Try.prog 103 = { ok := true, size := 1, bytes := 8, zok := true, zero := [.nilfn], k := .func } := by kernel_rfl
theorem td104 : td Try.prog 104 = { ok := true, size := 1, bytes := 8, zok := true, zero := [.nilfn], k := .func } := by kernel_rfl
theorem td105 : td Try.prog 105 = { ok := true, size := 1, bytes := 8, zok := true, zero := [.nilfn], k := .func } := by kernel_rfl
theorem td106 : td Try.prog 106 = { ok := true, size := 1, bytes := 8, zok := true, zero := [.nilfn], k := .func } := by kernel_rfl
theorem td107 : td Try.prog 107 = { ok := true, size := 1, bytes := 8, zok := true, zero := [.nilfn], k := .func } := by kernel_rfl
theorem td108 : td Try.prog 108 = { ok := true, size := 1, bytes := 24, zok := true, zero := [.nils], k := .slice 3 } := by kernel_rfl
theorem td109 : td Try.prog 109 = { ok := true, size := 1, bytes := 8, zok := true, zero := [.nilfn], k := .func } := by kernel_rfl
theorem td110 : td Try.prog 110 = { ok := true, size := 1, bytes := 8, zok := true, zero := [.nilfn], k := .func } := by kernel_rfl
theorem td111 : td Try.prog 111 = { ok := true, size := 6, bytes := 48, zok := true, zero := [.int .u64 0, .int .u64 0, .int .u64 0, .int .u64 0, .int .u64 0, .int .u64 0], k := .array 6 52 } := by kernel_rfl
theorem td112 : td Try.prog 112 = { ok := true, size := 1, bytes := 8, zok := true, zero := [.nilfn], k := .func } := by kernel_rfl
theorem td113 : td Try.prog 113 = { ok := true, size := 1, bytes := 24, zok := true, zero := [.nils], k := .slice 5 } := by kernel_rfl
theorem td114 : td Try.prog 114 = { ok := true, size := 1, bytes := 8, zok := true, zero := [.int .u64 0], k := .int .u64 } := by kernel_rfl
theorem td115 : td Try.prog 115 = { ok := true, size := 1, bytes := 8, zok := true, zero := [.nilfn], k := .func } := by kernel_rfl
theorem td116 : td Try.prog 116 = { ok := true, size := 1, bytes := 8, zok := true, zero := [.nilfn], k := .func } := by kernel_rfl
theorem td117 : td Try.prog 117 = { ok := true, size := 1, bytes := 8, zok := true, zero := [.nilfn], k := .func } := by kernel_rfl
theorem td118 : td Try.prog 118 = { ok := true, size := 1, bytes := 8, zok := true, zero := [.nilp], k := .ptr 3 } := by kernel_rfl
theorem td119 : td Try.prog 119 = { ok := true, size := 1, bytes := 8, zok := true, zero := [.nilfn], k := .func } := by kernel_rfl
theorem td120 : td Try.prog 120 = { ok := true, size := 1, bytes := 8, zok := true, zero := [.nilfn], k := .func } := by kernel_rfl
theorem td121 : td Try.prog 121 = { ok := true, size := 1, bytes := 8, zok := true, zero := [.nilfn], k := .func } := by kernel_rfl
theorem td122 : td Try.prog 122 = { ok := true, size := 1, bytes := 8, zok := true, zero := [.nilfn], k := .func } := by kernel_rfl
theorem td123 : td Try.prog 123 = { ok := true, size := 1, bytes := 8, zok := true, zero := [.nilp], k := .ptr 114 } := by kernel_rfl
theorem td125 : td Try.prog 125 = { ok := true, size := 1, bytes := 8, zok := true, zero := [.nilfn], k := .func } := by kernel_rfl
theorem td126 : td Try.prog 126 = { ok := true, size := 1, bytes := 8, zok := true, zero := [.nilfn], k := .func } := by kernel_rfl
theorem td127 : td Try.prog 127 = { ok := true, size := 1, bytes := 8, zok := true, zero := [.nilfn], k := .func } := by kernel_rfl
theorem td128 : td Try.prog 128 = { ok := true, size := 1, bytes := 8, zok := true, zero := [.nilfn], k := .func } := by kernel_rfl
theorem td129 : td Try.prog 129 = { ok := true, size := 1, bytes := 8, zok := true, zero := [.nilfn], k := .func } := by kernel_rfl
theorem td130 : td Try.prog 130 = { ok := true, size := 1, bytes := 8, zok := true, zero := [.nilfn], k := .func } := by kernel_rfl
theorem td131 : td Try.prog 131 = { ok := true, size := 1, bytes := 8, zok := true, zero := [.nilfn], k := .func } := by kernel_rfl
theorem td132 : td Try.prog 132 = { ok := true, size := 1, bytes := 8, zok := true, zero := [.nilfn], k := .func } := by kernel_rfl
theorem td133 : td Try.prog 133 = { ok := true, size := 1, bytes := 8, zok := true, zero := [.nilfn], k := .func } := by kernel_rfl
theorem td134 : td Try.prog 134 = { ok := true, size := 1, bytes := 8, zok := true, zero := [.nilfn], k := .func } := by kernel_rfl
theorem td135 : td Try.prog 135 = { ok := true, size := 4, bytes := 40, zok := true, zero := [.nilp, .nilp, .nilp, .str ⟨#[]⟩], k := .struct [(0, 17), (1, 17), (2, 17), (3, 9)] } := by kernel_rfl
theorem td136 : td Try.prog 136 = { ok := true, size := 4, bytes := 40, zok := true, zero := [.nilp, .nilp, .nilp, .str ⟨#[]⟩], k := .struct [(0, 17), (1, 17), (2, 17), (3, 9)] } := by kernel_rfl
theorem td137 : td Try.prog 137 = { ok := true, size := 0, bytes := 0, zok := true, zero := [], k := .array 0 16 } := by kernel_rfl
theorem td138 : td Try.prog 138 = { ok := true, size := 0, bytes := 0, zok := true, zero := [], k := .struct [(0, 137)] } := by kernel_rfl
theorem td139 : td Try.prog 139 = { ok := true, size := 0, bytes := 0, zok := true, zero := [], k := .struct [(0, 137)] } := by kernel_rfl
theorem td140 : td Try.prog 140 = { ok := true, size := 1, bytes := 8, zok := true, zero := [.nilfn], k := .func } := by kernel_rfl
theorem td141 : td Try.prog 141 = { ok := true, size := 1, bytes := 1, zok := true, zero := [.int .u8 0], k := .int .u8 } := by kernel_rfl
theorem td142 : td Try.prog 142 = { ok := true, size := 1, bytes := 1, zok := true, zero := [.int .u8 0], k := .int .u8 } := by kernel_rfl
theorem td143 : td Try.prog 143 = { ok := true, size := 1, bytes := 8, zok := true, zero := [.nilfn], k := .func } := by kernel_rfl
theorem td144 : td Try.prog 144 = { ok := true, size := 1, bytes := 8, zok := true, zero := [.nilp], k := .ptr 5 } := by kernel_rfl
theorem td145 : td Try.prog 145 = { ok := true, size := 1, bytes := 4, zok := true, zero := [.int .i32 0], k := .int .i32 } := by kernel_rfl
theorem td146 : td Try.prog 146 = { ok := true, size := 1, bytes := 4, zok := true, zero := [.int .i32 0], k := .int .i32 } := by kernel_rfl
theorem td147 : td Try.prog 147 = { ok := true, size := 11, bytes := 48, zok := true, zero := [.int .u64 0, .int .u64 0, .int .u32 0, .int .u8 0, .int .u8 0, .int .u8 0, .int .u8 0, .nilfn, .nilp, .int .i32 0, .int .i32 0], k := .struct [(0, 12), (1, 12), (2, 30), (3, 141), (4, 5), (5, 5), (6, 142), (7, 143), (8, 144), (9, 145), (10, 146)] } := by kernel_rfl
theorem td148 : td Try.prog 148 = { ok := true, size := 11, bytes := 48, zok := true, zero := [.int .u64 0, .int .u64 0, .int .u32 0, .int .u8 0, .int .u8 0, .int .u8 0, .int .u8 0, .nilfn, .nilp, .int .i32 0, .int .i32 0], k := .struct [(0, 12), (1, 12), (2, 30), (3, 141), (4, 5), (5, 5), (6, 142), (7, 143), (8, 144), (9, 145), (10, 146)] } := by kernel_rfl
theorem eqp32 : eqPlain Try.prog 32 = true := by kernel_rfl
theorem eqp33 : eqPlain Try.prog 33 = true := by kernel_rfl
theorem eqp35 : eqPlain Try.prog 35 = true := by kernel_rfl
theorem eqp37 : eqPlain Try.prog 37 = true := by kernel_rfl
theorem eqp49 : eqPlain Try.prog 49 = true := by kernel_rfl
theorem eqp53 : eqPlain Try.prog 53 = true := by kernel_rfl
theorem eqp54 : eqPlain Try.prog 54 = true := by kernel_rfl
theorem eqp111 : eqPlain Try.prog 111 = true := by kernel_rfl
theorem mixed : Try.prog.follows .mixedOrders = true := by kernel_rfl
attribute [go_sem] td1 td2 td3 td4 td5 td6 td7 td8 td9 td10 td11 td12 td13 td14 td15 td16 td17 td18 td19 td20 td21 td22 td23 td24 td25 td26 td27 td29 td30 td31 td32 td33 td34 td35 td36 td37 td38 td39 td40 td41 td42 td43 td44 td45 td46 td47 td48 td49 td50 td51 td52 td53 td54 td56 td57 td58 td59 td60 td61 td62 td64 td65 td66 td67 td69 td70 td71 td72 td73 td74 td75 td77 td78 td79 td80 td81 td82 td83 td84 td85 td86 td87 td88 td89 td90 td92 td93 td94 td95 td96 td97 td98 td99 td100 td101 td102 td103 td104 td105 td106 td107 td108 td109 td110 td111 td112 td113 td114 td115 td116 td117 td118 td119 td120 td121 td122 td123 td125 td126 td127 td128 td129 td130 td131 td132 td133 td134 td135 td136 td137 td138 td139 td140 td141 td142 td143 td144 td145 td146 td147 td148 eqp32 eqp33 eqp35 eqp37 eqp49 eqp53 eqp54 eqp111
end Go.Proofs.Ytielcgplbnlgbaa
