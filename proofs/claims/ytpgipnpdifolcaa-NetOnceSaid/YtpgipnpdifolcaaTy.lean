/- The types of this translation, as the logic needs them. -/
import Derived.Test.YtpgipnpdifolcaaMl20
import Derived.Test.YtpgipnpdifolcaaRows
import Derived.KernelRfl
namespace Go.Proofs.Ytpgipnpdifolcaa
theorem td1 : td Try.prog 1 = { ok := true, size := 1, bytes := 8, zok := true, zero := [.nilfn], k := .func } := by kernel_rfl
theorem td2 : td Try.prog 2 = { ok := true, size := 1, bytes := 8, zok := true, zero := [.int .i64 0], k := .int .i64 } := by kernel_rfl
theorem td3 : td Try.prog 3 = { ok := true, size := 1, bytes := 8, zok := true, zero := [.int .i64 0], k := .int .i64 } := by kernel_rfl
theorem td4 : td Try.prog 4 = { ok := true, size := 1, bytes := 1, zok := true, zero := [.bool false], k := .bool } := by kernel_rfl
theorem td5 : td Try.prog 5 = { ok := true, size := 1, bytes := 1, zok := true, zero := [.int .u8 0], k := .int .u8 } := by kernel_rfl
theorem td6 : td Try.prog 6 = { ok := true, size := 1, bytes := 1, zok := true, zero := [.int .u8 0], k := .int .u8 } := by kernel_rfl
theorem td7 : td Try.prog 7 = { ok := true, size := 4, bytes := 24, zok := true, zero := [.int .i64 0, .int .i64 0, .bool false, .int .u8 0], k := .struct [(0, 2), (1, 3), (2, 4), (3, 6)] } := by kernel_rfl
theorem td8 : td Try.prog 8 = { ok := true, size := 4, bytes := 24, zok := true, zero := [.int .i64 0, .int .i64 0, .bool false, .int .u8 0], k := .struct [(0, 2), (1, 3), (2, 4), (3, 6)] } := by kernel_rfl
theorem td9 : td Try.prog 9 = { ok := true, size := 1, bytes := 16, zok := true, zero := [.str ⟨#[]⟩], k := .str } := by kernel_rfl
theorem td10 : td Try.prog 10 = { ok := true, size := 1, bytes := 16, zok := true, zero := [.str ⟨#[]⟩], k := .str } := by kernel_rfl
theorem td11 : td Try.prog 11 = { ok := true, size := 1, bytes := 16, zok := true, zero := [.str ⟨#[]⟩], k := .str } := by kernel_rfl
theorem td12 : td Try.prog 12 = { ok := true, size := 1, bytes := 8, zok := true, zero := [.int .u64 0], k := .int .u64 } := by kernel_rfl
theorem td13 : td Try.prog 13 = { ok := true, size := 2, bytes := 24, zok := true, zero := [.str ⟨#[]⟩, .int .u64 0], k := .struct [(0, 9), (1, 12)] } := by kernel_rfl
theorem td14 : td Try.prog 14 = { ok := true, size := 2, bytes := 24, zok := true, zero := [.str ⟨#[]⟩, .int .u64 0], k := .struct [(0, 9), (1, 12)] } := by kernel_rfl
theorem td15 : td Try.prog 15 = { ok := true, size := 1, bytes := 8, zok := true, zero := [.nilp], k := .ptr 72 } := by kernel_rfl
theorem td16 : td Try.prog 16 = { ok := true, size := 1, bytes := 8, zok := true, zero := [.nilp], k := .ptr 75 } := by kernel_rfl
theorem td17 : td Try.prog 17 = { ok := true, size := 1, bytes := 8, zok := true, zero := [.nilp], k := .ptr 83 } := by kernel_rfl
theorem td18 : td Try.prog 18 = { ok := true, size := 1, bytes := 8, zok := true, zero := [.nilp], k := .struct [(0, 17)] } := by kernel_rfl
theorem td19 : td Try.prog 19 = { ok := true, size := 1, bytes := 8, zok := true, zero := [.nilp], k := .struct [(0, 17)] } := by kernel_rfl
theorem td20 : td Try.prog 20 = { ok := true, size := 1, bytes := 16, zok := true, zero := [.nili], k := .iface } := by kernel_rfl
theorem td21 : td Try.prog 21 = { ok := true, size := 1, bytes := 4, zok := true, zero := [.int .i32 0], k := .int .i32 } := by kernel_rfl
theorem td22 : td Try.prog 22 = { ok := true, size := 1, bytes := 24, zok := true, zero := [.nils], k := .slice 31 } := by kernel_rfl
theorem td23 : td Try.prog 23 = { ok := true, size := 1, bytes := 8, zok := true, zero := [.nilfn], k := .func } := by kernel_rfl
theorem td24 : td Try.prog 24 = { ok := true, size := 1, bytes := 8, zok := true, zero := [.nilfn], k := .func } := by kernel_rfl
theorem td25 : td Try.prog 25 = { ok := true, size := 1, bytes := 8, zok := true, zero := [.nilp], k := .ptr 55 } := by kernel_rfl
theorem td26 : td Try.prog 26 = { ok := true, size := 1, bytes := 8, zok := true, zero := [.nilfn], k := .func } := by kernel_rfl
theorem td27 : td Try.prog 27 = { ok := true, size := 1, bytes := 24, zok := true, zero := [.nils], k := .slice 29 } := by kernel_rfl
theorem td28 : td Try.prog 28 = { ok := true, size := 3, bytes := 32, zok := true, zero := [.int .i64 0, .int .i64 0, .str ⟨#[]⟩], k := .struct [(0, 3), (1, 3), (2, 9)] } := by kernel_rfl
theorem td29 : td Try.prog 29 = { ok := true, size := 3, bytes := 32, zok := true, zero := [.int .i64 0, .int .i64 0, .str ⟨#[]⟩], k := .struct [(0, 3), (1, 3), (2, 9)] } := by kernel_rfl
theorem td30 : td Try.prog 30 = { ok := true, size := 5, bytes := 48, zok := true, zero := [.int .i64 0, .int .i64 0, .int .i64 0, .int .i64 0, .str ⟨#[]⟩], k := .struct [(0, 3), (1, 3), (2, 29)] } := by kernel_rfl
theorem td31 : td Try.prog 31 = { ok := true, size := 5, bytes := 48, zok := true, zero := [.int .i64 0, .int .i64 0, .int .i64 0, .int .i64 0, .str ⟨#[]⟩], k := .struct [(0, 3), (1, 3), (2, 29)] } := by kernel_rfl
theorem td32 : td Try.prog 32 = { ok := true, size := 3, bytes := 32, zok := true, zero := [.int .i64 0, .int .i64 0, .str ⟨#[]⟩], k := .struct [(0, 3), (1, 3), (2, 9)] } := by kernel_rfl
theorem td33 : td Try.prog 33 = { ok := true, size := 1, bytes := 8, zok := true, zero := [.nilfn], k := .func } := by kernel_rfl
theorem td34 : td Try.prog 34 = { ok := true, size := 1, bytes := 8, zok := true, zero := [.nilfn], k := .func } := by kernel_rfl
theorem td36 : td Try.prog 36 = { ok := true, size := 1, bytes := 8, zok := true, zero := [.nilfn], k := .func } := by kernel_rfl
theorem td38 : td Try.prog 38 = { ok := true, size := 1, bytes := 8, zok := true, zero := [.nilfn], k := .func } := by kernel_rfl
theorem td40 : td Try.prog 40 = { ok := true, size := 1, bytes := 8, zok := true, zero := [.nilfn], k := .func } := by kernel_rfl
theorem td41 : td Try.prog 41 = { ok := true, size := 1, bytes := 8, zok := true, zero := [.nilfn], k := .func } := by kernel_rfl
theorem td42 : td Try.prog 42 = { ok := true, size := 1, bytes := 8, zok := true, zero := [.nilfn], k := .func } := by kernel_rfl
theorem td44 : td Try.prog 44 = { ok := true, size := 1, bytes := 8, zok := true, zero := [.nilfn], k := .func } := by kernel_rfl
theorem td45 : td Try.prog 45 = { ok := true, size := 1, bytes := 8, zok := true, zero := [.nilfn], k := .func } := by kernel_rfl
theorem td46 : td Try.prog 46 = { ok := true, size := 1, bytes := 24, zok := true, zero := [.nils], k := .slice 32 } := by kernel_rfl
theorem td47 : td Try.prog 47 = { ok := true, size := 0, bytes := 0, zok := true, zero := [], k := .struct [] } := by kernel_rfl
theorem td48 : td Try.prog 48 = { ok := true, size := 0, bytes := 0, zok := true, zero := [], k := .struct [] } := by kernel_rfl
theorem td49 : td Try.prog 49 = { ok := true, size := 1, bytes := 4, zok := true, zero := [.int .u32 0], k := .int .u32 } := by kernel_rfl
theorem td50 : td Try.prog 50 = { ok := true, size := 2, bytes := 8, zok := true, zero := [.int .i32 0, .int .u32 0], k := .struct [(0, 21), (1, 49)] } := by kernel_rfl
theorem td51 : td Try.prog 51 = { ok := true, size := 2, bytes := 8, zok := true, zero := [.int .i32 0, .int .u32 0], k := .struct [(0, 21), (1, 49)] } := by kernel_rfl
theorem td52 : td Try.prog 52 = { ok := true, size := 2, bytes := 8, zok := true, zero := [.int .i32 0, .int .u32 0], k := .struct [(0, 48), (0, 51)] } := by kernel_rfl
theorem td53 : td Try.prog 53 = { ok := true, size := 2, bytes := 8, zok := true, zero := [.int .i32 0, .int .u32 0], k := .struct [(0, 48), (0, 51)] } := by kernel_rfl
theorem td54 : td Try.prog 54 = { ok := true, size := 3, bytes := 32, zok := true, zero := [.int .i32 0, .int .u32 0, .nils], k := .struct [(0, 53), (2, 46)] } := by kernel_rfl
theorem td55 : td Try.prog 55 = { ok := true, size := 3, bytes := 32, zok := true, zero := [.int .i32 0, .int .u32 0, .nils], k := .struct [(0, 53), (2, 46)] } := by kernel_rfl
theorem td56 : td Try.prog 56 = { ok := true, size := 1, bytes := 8, zok := true, zero := [.nilfn], k := .func } := by kernel_rfl
theorem td57 : td Try.prog 57 = { ok := true, size := 1, bytes := 8, zok := true, zero := [.nilp], k := .ptr 53 } := by kernel_rfl
theorem td58 : td Try.prog 58 = { ok := true, size := 1, bytes := 8, zok := true, zero := [.nilp], k := .ptr 51 } := by kernel_rfl
theorem td59 : td Try.prog 59 = { ok := true, size := 1, bytes := 8, zok := true, zero := [.nilfn], k := .func } := by kernel_rfl
theorem td60 : td Try.prog 60 = { ok := true, size := 1, bytes := 8, zok := true, zero := [.nilp], k := .ptr 21 } := by kernel_rfl
theorem td61 : td Try.prog 61 = { ok := true, size := 1, bytes := 8, zok := true, zero := [.nilfn], k := .func } := by kernel_rfl
theorem td63 : td Try.prog 63 = { ok := true, size := 1, bytes := 8, zok := true, zero := [.nilfn], k := .func } := by kernel_rfl
theorem td64 : td Try.prog 64 = { ok := true, size := 1, bytes := 8, zok := true, zero := [.nilfn], k := .func } := by kernel_rfl
theorem td65 : td Try.prog 65 = { ok := true, size := 1, bytes := 8, zok := true, zero := [.int .u64 0], k := .int .u64 } := by kernel_rfl
theorem td66 : td Try.prog 66 = { ok := true, size := 1, bytes := 8, zok := true, zero := [.nilfn], k := .func } := by kernel_rfl
theorem td67 : td Try.prog 67 = { ok := true, size := 1, bytes := 8, zok := true, zero := [.nilfn], k := .func } := by kernel_rfl
theorem td68 : td Try.prog 68 = { ok := true, size := 1, bytes := 8, zok := true, zero := [.nilfn], k := .func } := by kernel_rfl
theorem td69 : td Try.prog 69 = { ok := true, size := 1, bytes := 8, zok := true, zero := [.nilp], k := .ptr 49 } := by kernel_rfl
theorem td70 : td Try.prog 70 = { ok := true, size := 1, bytes := 8, zok := true, zero := [.nilfn], k := .func } := by kernel_rfl
theorem td71 : td Try.prog 71 = { ok := true, size := 4, bytes := 40, zok := true, zero := [.nilp, .nilp, .nilp, .str ⟨#[]⟩], k := .struct [(0, 17), (1, 17), (2, 17), (3, 9)] } := by kernel_rfl
theorem td72 : td Try.prog 72 = { ok := true, size := 4, bytes := 40, zok := true, zero := [.nilp, .nilp, .nilp, .str ⟨#[]⟩], k := .struct [(0, 17), (1, 17), (2, 17), (3, 9)] } := by kernel_rfl
theorem td73 : td Try.prog 73 = { ok := true, size := 0, bytes := 0, zok := true, zero := [], k := .array 0 16 } := by kernel_rfl
theorem td74 : td Try.prog 74 = { ok := true, size := 0, bytes := 0, zok := true, zero := [], k := .struct [(0, 73)] } := by kernel_rfl
theorem td75 : td Try.prog 75 = { ok := true, size := 0, bytes := 0, zok := true, zero := [], k := .struct [(0, 73)] } := by kernel_rfl
theorem td76 : td Try.prog 76 = { ok := true, size := 1, bytes := 1, zok := true, zero := [.int .u8 0], k := .int .u8 } := by kernel_rfl
theorem td77 : td Try.prog 77 = { ok := true, size := 1, bytes := 1, zok := true, zero := [.int .u8 0], k := .int .u8 } := by kernel_rfl
theorem td78 : td Try.prog 78 = { ok := true, size := 1, bytes := 8, zok := true, zero := [.nilfn], k := .func } := by kernel_rfl
theorem td79 : td Try.prog 79 = { ok := true, size := 1, bytes := 8, zok := true, zero := [.nilp], k := .ptr 5 } := by kernel_rfl
theorem td80 : td Try.prog 80 = { ok := true, size := 1, bytes := 4, zok := true, zero := [.int .i32 0], k := .int .i32 } := by kernel_rfl
theorem td81 : td Try.prog 81 = { ok := true, size := 1, bytes := 4, zok := true, zero := [.int .i32 0], k := .int .i32 } := by kernel_rfl
theorem td82 : td Try.prog 82 = { ok := true, size := 11, bytes := 48, zok := true, zero := [.int .u64 0, .int .u64 0, .int .u32 0, .int .u8 0, .int .u8 0, .int .u8 0, .int .u8 0, .nilfn, .nilp, .int .i32 0, .int .i32 0], k := .struct [(0, 12), (1, 12), (2, 49), (3, 76), (4, 5), (5, 5), (6, 77), (7, 78), (8, 79), (9, 80), (10, 81)] } := by kernel_rfl
theorem td83 : td Try.prog 83 = { ok := true, size := 11, bytes := 48, zok := true, zero := [.int .u64 0, .int .u64 0, .int .u32 0, .int .u8 0, .int .u8 0, .int .u8 0, .int .u8 0, .nilfn, .nilp, .int .i32 0, .int .i32 0], k := .struct [(0, 12), (1, 12), (2, 49), (3, 76), (4, 5), (5, 5), (6, 77), (7, 78), (8, 79), (9, 80), (10, 81)] } := by kernel_rfl
theorem eqp29 : eqPlain Try.prog 29 = true := by kernel_rfl
theorem eqp31 : eqPlain Try.prog 31 = true := by kernel_rfl
theorem eqp32 : eqPlain Try.prog 32 = true := by kernel_rfl
theorem mixed : Try.prog.follows .mixedOrders = true := by kernel_rfl
attribute [go_sem] td1 td2 td3 td4 td5 td6 td7 td8 td9 td10 td11 td12 td13 td14 td15 td16 td17 td18 td19 td20 td21 td22 td23 td24 td25 td26 td27 td28 td29 td30 td31 td32 td33 td34 td36 td38 td40 td41 td42 td44 td45 td46 td47 td48 td49 td50 td51 td52 td53 td54 td55 td56 td57 td58 td59 td60 td61 td63 td64 td65 td66 td67 td68 td69 td70 td71 td72 td73 td74 td75 td76 td77 td78 td79 td80 td81 td82 td83 eqp29 eqp31 eqp32
end Go.Proofs.Ytpgipnpdifolcaa
