/- Parts of the proof, joined: each part says what it proves, and under which conditions. -/
import Derived.Test.YtfbodefnblpflaaGreatDoorMac
import Derived.Test.YtfbodefnblpflaaGreatDoorRows
import Derived.KernelRfl
import Derived.RangeFuncIn
import Derived.RangeFuncSeq
section
/- The types of this translation, as the logic needs them. -/
namespace Go.Proofs.YtfbodefnblpflaaGreatDoor
theorem td1 : td Tryz.prog 1 = { ok := true, size := 1, bytes := 8, zok := true, zero := [.nilfn], k := .func } := by kernel_rfl
theorem td2 : td Tryz.prog 2 = { ok := true, size := 1, bytes := 8, zok := true, zero := [.int .i64 0], k := .int .i64 } := by kernel_rfl
theorem td3 : td Tryz.prog 3 = { ok := true, size := 1, bytes := 8, zok := true, zero := [.int .i64 0], k := .int .i64 } := by kernel_rfl
theorem td4 : td Tryz.prog 4 = { ok := true, size := 1, bytes := 1, zok := true, zero := [.bool false], k := .bool } := by kernel_rfl
theorem td5 : td Tryz.prog 5 = { ok := true, size := 1, bytes := 1, zok := true, zero := [.int .u8 0], k := .int .u8 } := by kernel_rfl
theorem td6 : td Tryz.prog 6 = { ok := true, size := 1, bytes := 1, zok := true, zero := [.int .u8 0], k := .int .u8 } := by kernel_rfl
theorem td7 : td Tryz.prog 7 = { ok := true, size := 4, bytes := 24, zok := true, zero := [.int .i64 0, .int .i64 0, .bool false, .int .u8 0], k := .struct [(0, 2), (1, 3), (2, 4), (3, 6)] } := by kernel_rfl
theorem td8 : td Tryz.prog 8 = { ok := true, size := 4, bytes := 24, zok := true, zero := [.int .i64 0, .int .i64 0, .bool false, .int .u8 0], k := .struct [(0, 2), (1, 3), (2, 4), (3, 6)] } := by kernel_rfl
theorem td9 : td Tryz.prog 9 = { ok := true, size := 1, bytes := 16, zok := true, zero := [.str ⟨#[]⟩], k := .str } := by kernel_rfl
theorem td10 : td Tryz.prog 10 = { ok := true, size := 1, bytes := 16, zok := true, zero := [.str ⟨#[]⟩], k := .str } := by kernel_rfl
theorem td11 : td Tryz.prog 11 = { ok := true, size := 1, bytes := 16, zok := true, zero := [.str ⟨#[]⟩], k := .str } := by kernel_rfl
theorem td12 : td Tryz.prog 12 = { ok := true, size := 1, bytes := 8, zok := true, zero := [.int .u64 0], k := .int .u64 } := by kernel_rfl
theorem td13 : td Tryz.prog 13 = { ok := true, size := 2, bytes := 24, zok := true, zero := [.str ⟨#[]⟩, .int .u64 0], k := .struct [(0, 9), (1, 12)] } := by kernel_rfl
theorem td14 : td Tryz.prog 14 = { ok := true, size := 2, bytes := 24, zok := true, zero := [.str ⟨#[]⟩, .int .u64 0], k := .struct [(0, 9), (1, 12)] } := by kernel_rfl
theorem td15 : td Tryz.prog 15 = { ok := true, size := 1, bytes := 8, zok := true, zero := [.nilp], k := .ptr 214 } := by kernel_rfl
theorem td16 : td Tryz.prog 16 = { ok := true, size := 1, bytes := 8, zok := true, zero := [.nilp], k := .ptr 217 } := by kernel_rfl
theorem td17 : td Tryz.prog 17 = { ok := true, size := 1, bytes := 8, zok := true, zero := [.nilp], k := .ptr 225 } := by kernel_rfl
theorem td18 : td Tryz.prog 18 = { ok := true, size := 1, bytes := 8, zok := true, zero := [.nilp], k := .struct [(0, 17)] } := by kernel_rfl
theorem td19 : td Tryz.prog 19 = { ok := true, size := 1, bytes := 8, zok := true, zero := [.nilp], k := .struct [(0, 17)] } := by kernel_rfl
theorem td20 : td Tryz.prog 20 = { ok := true, size := 1, bytes := 16, zok := true, zero := [.nili], k := .iface } := by kernel_rfl
theorem td21 : td Tryz.prog 21 = { ok := true, size := 1, bytes := 4, zok := true, zero := [.int .i32 0], k := .int .i32 } := by kernel_rfl
theorem td22 : td Tryz.prog 22 = { ok := true, size := 1, bytes := 4, zok := true, zero := [.int .u32 0], k := .int .u32 } := by kernel_rfl
theorem td23 : td Tryz.prog 23 = { ok := true, size := 3, bytes := 32, zok := true, zero := [.int .i64 0, .int .i64 0, .str ⟨#[]⟩], k := .struct [(0, 3), (1, 3), (2, 9)] } := by kernel_rfl
theorem td24 : td Tryz.prog 24 = { ok := true, size := 3, bytes := 32, zok := true, zero := [.int .i64 0, .int .i64 0, .str ⟨#[]⟩], k := .struct [(0, 3), (1, 3), (2, 9)] } := by kernel_rfl
theorem td25 : td Tryz.prog 25 = { ok := true, size := 24, bytes := 256, zok := true, zero := [.int .i64 0, .int .i64 0, .str ⟨#[]⟩, .int .i64 0, .int .i64 0, .str ⟨#[]⟩, .int .i64 0, .int .i64 0, .str ⟨#[]⟩, .int .i64 0, .int .i64 0, .str ⟨#[]⟩, .int .i64 0, .int .i64 0, .str ⟨#[]⟩, .int .i64 0, .int .i64 0, .str ⟨#[]⟩, .int .i64 0, .int .i64 0, .str ⟨#[]⟩, .int .i64 0, .int .i64 0, .str ⟨#[]⟩], k := .array 8 24 } := by kernel_rfl
theorem td26 : td Tryz.prog 26 = { ok := true, size := 26, bytes := 264, zok := true, zero := [.int .u32 0, .int .u32 0, .int .i64 0, .int .i64 0, .str ⟨#[]⟩, .int .i64 0, .int .i64 0, .str ⟨#[]⟩, .int .i64 0, .int .i64 0, .str ⟨#[]⟩, .int .i64 0, .int .i64 0, .str ⟨#[]⟩, .int .i64 0, .int .i64 0, .str ⟨#[]⟩, .int .i64 0, .int .i64 0, .str ⟨#[]⟩, .int .i64 0, .int .i64 0, .str ⟨#[]⟩, .int .i64 0, .int .i64 0, .str ⟨#[]⟩], k := .struct [(0, 22), (1, 22), (2, 25)] } := by kernel_rfl
theorem td27 : td Tryz.prog 27 = { ok := true, size := 26, bytes := 264, zok := true, zero := [.int .u32 0, .int .u32 0, .int .i64 0, .int .i64 0, .str ⟨#[]⟩, .int .i64 0, .int .i64 0, .str ⟨#[]⟩, .int .i64 0, .int .i64 0, .str ⟨#[]⟩, .int .i64 0, .int .i64 0, .str ⟨#[]⟩, .int .i64 0, .int .i64 0, .str ⟨#[]⟩, .int .i64 0, .int .i64 0, .str ⟨#[]⟩, .int .i64 0, .int .i64 0, .str ⟨#[]⟩, .int .i64 0, .int .i64 0, .str ⟨#[]⟩], k := .struct [(0, 22), (1, 22), (2, 25)] } := by kernel_rfl
theorem td28 : td Tryz.prog 28 = { ok := true, size := 29, bytes := 288, zok := true, zero := [.int .i64 0, .int .i64 0, .int .i64 0, .int .u32 0, .int .u32 0, .int .i64 0, .int .i64 0, .str ⟨#[]⟩, .int .i64 0, .int .i64 0, .str ⟨#[]⟩, .int .i64 0, .int .i64 0, .str ⟨#[]⟩, .int .i64 0, .int .i64 0, .str ⟨#[]⟩, .int .i64 0, .int .i64 0, .str ⟨#[]⟩, .int .i64 0, .int .i64 0, .str ⟨#[]⟩, .int .i64 0, .int .i64 0, .str ⟨#[]⟩, .int .i64 0, .int .i64 0, .str ⟨#[]⟩], k := .struct [(0, 3), (1, 3), (2, 3), (3, 27)] } := by kernel_rfl
theorem td29 : td Tryz.prog 29 = { ok := true, size := 29, bytes := 288, zok := true, zero := [.int .i64 0, .int .i64 0, .int .i64 0, .int .u32 0, .int .u32 0, .int .i64 0, .int .i64 0, .str ⟨#[]⟩, .int .i64 0, .int .i64 0, .str ⟨#[]⟩, .int .i64 0, .int .i64 0, .str ⟨#[]⟩, .int .i64 0, .int .i64 0, .str ⟨#[]⟩, .int .i64 0, .int .i64 0, .str ⟨#[]⟩, .int .i64 0, .int .i64 0, .str ⟨#[]⟩, .int .i64 0, .int .i64 0, .str ⟨#[]⟩, .int .i64 0, .int .i64 0, .str ⟨#[]⟩], k := .struct [(0, 3), (1, 3), (2, 3), (3, 27)] } := by kernel_rfl
theorem td30 : td Tryz.prog 30 = { ok := true, size := 1, bytes := 24, zok := true, zero := [.nils], k := .slice 115 } := by kernel_rfl
theorem td31 : td Tryz.prog 31 = { ok := true, size := 63, bytes := 632, zok := true, zero := [.int .i64 0, .int .i64 0, .int .i64 0, .int .i64 0, .int .u32 0, .int .u32 0, .int .i64 0, .int .i64 0, .str ⟨#[]⟩, .int .i64 0, .int .i64 0, .str ⟨#[]⟩, .int .i64 0, .int .i64 0, .str ⟨#[]⟩, .int .i64 0, .int .i64 0, .str ⟨#[]⟩, .int .i64 0, .int .i64 0, .str ⟨#[]⟩, .int .i64 0, .int .i64 0, .str ⟨#[]⟩, .int .i64 0, .int .i64 0, .str ⟨#[]⟩, .int .i64 0, .int .i64 0, .str ⟨#[]⟩, .int .i64 0, .int .i64 0, .int .i64 0, .int .i64 0, .int .i64 0, .int .u32 0, .int .u32 0, .int .i64 0, .int .i64 0, .str ⟨#[]⟩, .int .i64 0, .int .i64 0, .str ⟨#[]⟩, .int .i64 0, .int .i64 0, .str ⟨#[]⟩, .int .i64 0, .int .i64 0, .str ⟨#[]⟩, .int .i64 0, .int .i64 0, .str ⟨#[]⟩, .int .i64 0, .int .i64 0, .str ⟨#[]⟩, .int .i64 0, .int .i64 0, .str ⟨#[]⟩, .int .i64 0, .int .i64 0, .str ⟨#[]⟩, .nils, .int .u32 0], k := .struct [(0, 3), (1, 29), (30, 3), (31, 3), (32, 3), (33, 3), (34, 3), (35, 27), (61, 30), (62, 22)] } := by kernel_rfl
theorem td32 : td Tryz.prog 32 = { ok := true, size := 63, bytes := 632, zok := true, zero := [.int .i64 0, .int .i64 0, .int .i64 0, .int .i64 0, .int .u32 0, .int .u32 0, .int .i64 0, .int .i64 0, .str ⟨#[]⟩, .int .i64 0, .int .i64 0, .str ⟨#[]⟩, .int .i64 0, .int .i64 0, .str ⟨#[]⟩, .int .i64 0, .int .i64 0, .str ⟨#[]⟩, .int .i64 0, .int .i64 0, .str ⟨#[]⟩, .int .i64 0, .int .i64 0, .str ⟨#[]⟩, .int .i64 0, .int .i64 0, .str ⟨#[]⟩, .int .i64 0, .int .i64 0, .str ⟨#[]⟩, .int .i64 0, .int .i64 0, .int .i64 0, .int .i64 0, .int .i64 0, .int .u32 0, .int .u32 0, .int .i64 0, .int .i64 0, .str ⟨#[]⟩, .int .i64 0, .int .i64 0, .str ⟨#[]⟩, .int .i64 0, .int .i64 0, .str ⟨#[]⟩, .int .i64 0, .int .i64 0, .str ⟨#[]⟩, .int .i64 0, .int .i64 0, .str ⟨#[]⟩, .int .i64 0, .int .i64 0, .str ⟨#[]⟩, .int .i64 0, .int .i64 0, .str ⟨#[]⟩, .int .i64 0, .int .i64 0, .str ⟨#[]⟩, .nils, .int .u32 0], k := .struct [(0, 3), (1, 29), (30, 3), (31, 3), (32, 3), (33, 3), (34, 3), (35, 27), (61, 30), (62, 22)] } := by kernel_rfl
theorem td33 : td Tryz.prog 33 = { ok := true, size := 4, bytes := 32, zok := true, zero := [.int .i64 0, .int .i64 0, .int .i64 0, .int .i64 0], k := .struct [(0, 3), (1, 3), (2, 3), (3, 3)] } := by kernel_rfl
theorem td34 : td Tryz.prog 34 = { ok := true, size := 4, bytes := 32, zok := true, zero := [.int .i64 0, .int .i64 0, .int .i64 0, .int .i64 0], k := .struct [(0, 3), (1, 3), (2, 3), (3, 3)] } := by kernel_rfl
theorem td35 : td Tryz.prog 35 = { ok := true, size := 1, bytes := 8, zok := true, zero := [.int .i64 0], k := .int .i64 } := by kernel_rfl
theorem td36 : td Tryz.prog 36 = { ok := true, size := 10, bytes := 96, zok := true, zero := [.int .i64 0, .int .i64 0, .int .i64 0, .int .i64 0, .int .i64 0, .int .i64 0, .int .i64 0, .int .i64 0, .nils, .int .u32 0], k := .struct [(0, 3), (1, 3), (2, 3), (3, 35), (4, 3), (5, 3), (6, 3), (7, 3), (8, 30), (9, 22)] } := by kernel_rfl
theorem td37 : td Tryz.prog 37 = { ok := true, size := 10, bytes := 96, zok := true, zero := [.int .i64 0, .int .i64 0, .int .i64 0, .int .i64 0, .int .i64 0, .int .i64 0, .int .i64 0, .int .i64 0, .nils, .int .u32 0], k := .struct [(0, 3), (1, 3), (2, 3), (3, 35), (4, 3), (5, 3), (6, 3), (7, 3), (8, 30), (9, 22)] } := by kernel_rfl
theorem td38 : td Tryz.prog 38 = { ok := true, size := 1, bytes := 24, zok := true, zero := [.nils], k := .slice 119 } := by kernel_rfl
theorem td39 : td Tryz.prog 39 = { ok := true, size := 11, bytes := 104, zok := true, zero := [.int .i64 0, .bool false, .int .i64 0, .int .i64 0, .int .i64 0, .int .i64 0, .int .i64 0, .int .i64 0, .int .i64 0, .int .i64 0, .nils], k := .struct [(0, 35), (1, 4), (2, 34), (6, 34), (10, 38)] } := by kernel_rfl
theorem td40 : td Tryz.prog 40 = { ok := true, size := 11, bytes := 104, zok := true, zero := [.int .i64 0, .bool false, .int .i64 0, .int .i64 0, .int .i64 0, .int .i64 0, .int .i64 0, .int .i64 0, .int .i64 0, .int .i64 0, .nils], k := .struct [(0, 35), (1, 4), (2, 34), (6, 34), (10, 38)] } := by kernel_rfl
theorem td41 : td Tryz.prog 41 = { ok := true, size := 91, bytes := 888, zok := true, zero := [.int .i64 0, .int .i64 0, .int .i64 0, .int .i64 0, .int .i64 0, .int .i64 0, .int .u32 0, .int .u32 0, .int .i64 0, .int .i64 0, .str ⟨#[]⟩, .int .i64 0, .int .i64 0, .str ⟨#[]⟩, .int .i64 0, .int .i64 0, .str ⟨#[]⟩, .int .i64 0, .int .i64 0, .str ⟨#[]⟩, .int .i64 0, .int .i64 0, .str ⟨#[]⟩, .int .i64 0, .int .i64 0, .str ⟨#[]⟩, .int .i64 0, .int .i64 0, .str ⟨#[]⟩, .int .i64 0, .int .i64 0, .str ⟨#[]⟩, .int .i64 0, .int .i64 0, .int .i64 0, .int .i64 0, .int .i64 0, .int .u32 0, .int .u32 0, .int .i64 0, .int .i64 0, .str ⟨#[]⟩, .int .i64 0, .int .i64 0, .str ⟨#[]⟩, .int .i64 0, .int .i64 0, .str ⟨#[]⟩, .int .i64 0, .int .i64 0, .str ⟨#[]⟩, .int .i64 0, .int .i64 0, .str ⟨#[]⟩, .int .i64 0, .int .i64 0, .str ⟨#[]⟩, .int .i64 0, .int .i64 0, .str ⟨#[]⟩, .int .i64 0, .int .i64 0, .str ⟨#[]⟩, .nils, .int .u32 0, .int .i64 0, .int .i64 0, .int .i64 0, .int .i64 0, .int .i64 0, .int .i64 0, .int .i64 0, .int .i64 0, .int .i64 0, .int .i64 0, .int .i64 0, .int .i64 0, .nils, .int .u32 0, .int .i64 0, .bool false, .int .i64 0, .int .i64 0, .int .i64 0, .int .i64 0, .int .i64 0, .int .i64 0, .int .i64 0, .int .i64 0, .nils, .int .i64 0], k := .struct [(0, 3), (1, 3), (2, 32), (65, 34), (69, 37), (79, 40), (90, 35)] } := by kernel_rfl
theorem td42 : td Tryz.prog 42 = { ok := true, size := 91, bytes := 888, zok := true, zero := [.int .i64 0, .int .i64 0, .int .i64 0, .int .i64 0, .int .i64 0, .int .i64 0, .int .u32 0, .int .u32 0, .int .i64 0, .int .i64 0, .str ⟨#[]⟩, .int .i64 0, .int .i64 0, .str ⟨#[]⟩, .int .i64 0, .int .i64 0, .str ⟨#[]⟩, .int .i64 0, .int .i64 0, .str ⟨#[]⟩, .int .i64 0, .int .i64 0, .str ⟨#[]⟩, .int .i64 0, .int .i64 0, .str ⟨#[]⟩, .int .i64 0, .int .i64 0, .str ⟨#[]⟩, .int .i64 0, .int .i64 0, .str ⟨#[]⟩, .int .i64 0, .int .i64 0, .int .i64 0, .int .i64 0, .int .i64 0, .int .u32 0, .int .u32 0, .int .i64 0, .int .i64 0, .str ⟨#[]⟩, .int .i64 0, .int .i64 0, .str ⟨#[]⟩, .int .i64 0, .int .i64 0, .str ⟨#[]⟩, .int .i64 0, .int .i64 0, .str ⟨#[]⟩, .int .i64 0, .int .i64 0, .str ⟨#[]⟩, .int .i64 0, .int .i64 0, .str ⟨#[]⟩, .int .i64 0, .int .i64 0, .str ⟨#[]⟩, .int .i64 0, .int .i64 0, .str ⟨#[]⟩, .nils, .int .u32 0, .int .i64 0, .int .i64 0, .int .i64 0, .int .i64 0, .int .i64 0, .int .i64 0, .int .i64 0, .int .i64 0, .int .i64 0, .int .i64 0, .int .i64 0, .int .i64 0, .nils, .int .u32 0, .int .i64 0, .bool false, .int .i64 0, .int .i64 0, .int .i64 0, .int .i64 0, .int .i64 0, .int .i64 0, .int .i64 0, .int .i64 0, .nils, .int .i64 0], k := .struct [(0, 3), (1, 3), (2, 32), (65, 34), (69, 37), (79, 40), (90, 35)] } := by kernel_rfl
theorem td43 : td Tryz.prog 43 = { ok := true, size := 1, bytes := 8, zok := true, zero := [.nilfn], k := .func } := by kernel_rfl
theorem td44 : td Tryz.prog 44 = { ok := true, size := 1, bytes := 8, zok := true, zero := [.nilfn], k := .func } := by kernel_rfl
theorem td46 : td Tryz.prog 46 = { ok := true, size := 1, bytes := 8, zok := true, zero := [.nilfn], k := .func } := by kernel_rfl
theorem td47 : td Tryz.prog 47 = { ok := true, size := 91, bytes := 888, zok := true, zero := [.int .i64 0, .int .i64 0, .int .i64 0, .int .i64 0, .int .i64 0, .int .i64 0, .int .u32 0, .int .u32 0, .int .i64 0, .int .i64 0, .str ⟨#[]⟩, .int .i64 0, .int .i64 0, .str ⟨#[]⟩, .int .i64 0, .int .i64 0, .str ⟨#[]⟩, .int .i64 0, .int .i64 0, .str ⟨#[]⟩, .int .i64 0, .int .i64 0, .str ⟨#[]⟩, .int .i64 0, .int .i64 0, .str ⟨#[]⟩, .int .i64 0, .int .i64 0, .str ⟨#[]⟩, .int .i64 0, .int .i64 0, .str ⟨#[]⟩, .int .i64 0, .int .i64 0, .int .i64 0, .int .i64 0, .int .i64 0, .int .u32 0, .int .u32 0, .int .i64 0, .int .i64 0, .str ⟨#[]⟩, .int .i64 0, .int .i64 0, .str ⟨#[]⟩, .int .i64 0, .int .i64 0, .str ⟨#[]⟩, .int .i64 0, .int .i64 0, .str ⟨#[]⟩, .int .i64 0, .int .i64 0, .str ⟨#[]⟩, .int .i64 0, .int .i64 0, .str ⟨#[]⟩, .int .i64 0, .int .i64 0, .str ⟨#[]⟩, .int .i64 0, .int .i64 0, .str ⟨#[]⟩, .nils, .int .u32 0, .int .i64 0, .int .i64 0, .int .i64 0, .int .i64 0, .int .i64 0, .int .i64 0, .int .i64 0, .int .i64 0, .int .i64 0, .int .i64 0, .int .i64 0, .int .i64 0, .nils, .int .u32 0, .int .i64 0, .bool false, .int .i64 0, .int .i64 0, .int .i64 0, .int .i64 0, .int .i64 0, .int .i64 0, .int .i64 0, .int .i64 0, .nils, .int .i64 0], k := .struct [(0, 3), (1, 3), (2, 32), (65, 34), (69, 37), (79, 40), (90, 35)] } := by kernel_rfl
theorem td48 : td Tryz.prog 48 = { ok := true, size := 1, bytes := 8, zok := true, zero := [.nilfn], k := .func } := by kernel_rfl
theorem td49 : td Tryz.prog 49 = { ok := true, size := 1, bytes := 8, zok := true, zero := [.nilfn], k := .func } := by kernel_rfl
theorem td50 : td Tryz.prog 50 = { ok := true, size := 1, bytes := 8, zok := true, zero := [.nilfn], k := .func } := by kernel_rfl
theorem td51 : td Tryz.prog 51 = { ok := true, size := 1, bytes := 8, zok := true, zero := [.nilfn], k := .func } := by kernel_rfl
theorem td52 : td Tryz.prog 52 = { ok := true, size := 1, bytes := 8, zok := true, zero := [.nilfn], k := .func } := by kernel_rfl
theorem td54 : td Tryz.prog 54 = { ok := true, size := 1, bytes := 8, zok := true, zero := [.nilfn], k := .func } := by kernel_rfl
theorem td56 : td Tryz.prog 56 = { ok := true, size := 1, bytes := 8, zok := true, zero := [.nilfn], k := .func } := by kernel_rfl
theorem td57 : td Tryz.prog 57 = { ok := true, size := 1, bytes := 8, zok := true, zero := [.nilfn], k := .func } := by kernel_rfl
theorem td58 : td Tryz.prog 58 = { ok := true, size := 1, bytes := 8, zok := true, zero := [.nilfn], k := .func } := by kernel_rfl
theorem td59 : td Tryz.prog 59 = { ok := true, size := 1, bytes := 8, zok := true, zero := [.nilfn], k := .func } := by kernel_rfl
theorem td60 : td Tryz.prog 60 = { ok := true, size := 1, bytes := 8, zok := true, zero := [.nilfn], k := .func } := by kernel_rfl
theorem td61 : td Tryz.prog 61 = { ok := true, size := 1, bytes := 8, zok := true, zero := [.nilfn], k := .func } := by kernel_rfl
theorem td62 : td Tryz.prog 62 = { ok := true, size := 1, bytes := 8, zok := true, zero := [.nilfn], k := .func } := by kernel_rfl
theorem td63 : td Tryz.prog 63 = { ok := true, size := 1, bytes := 24, zok := true, zero := [.nils], k := .slice 5 } := by kernel_rfl
theorem td64 : td Tryz.prog 64 = { ok := true, size := 1, bytes := 8, zok := true, zero := [.nilfn], k := .func } := by kernel_rfl
theorem td65 : td Tryz.prog 65 = { ok := true, size := 1, bytes := 8, zok := true, zero := [.nilfn], k := .func } := by kernel_rfl
theorem td66 : td Tryz.prog 66 = { ok := true, size := 1, bytes := 8, zok := true, zero := [.nilfn], k := .func } := by kernel_rfl
theorem td67 : td Tryz.prog 67 = { ok := true, size := 3, bytes := 24, zok := true, zero := [.nilfn, .nilfn, .nilfn], k := .struct [(0, 60), (1, 65), (2, 66)] } := by kernel_rfl
theorem td68 : td Tryz.prog 68 = { ok := true, size := 3, bytes := 24, zok := true, zero := [.nilfn, .nilfn, .nilfn], k := .struct [(0, 60), (1, 65), (2, 66)] } := by kernel_rfl
theorem td69 : td Tryz.prog 69 = { ok := true, size := 1, bytes := 8, zok := true, zero := [.nilfn], k := .func } := by kernel_rfl
theorem td70 : td Tryz.prog 70 = { ok := true, size := 1, bytes := 8, zok := true, zero := [.nilfn], k := .func } := by kernel_rfl
theorem td71 : td Tryz.prog 71 = { ok := true, size := 1, bytes := 8, zok := true, zero := [.nilfn], k := .func } := by kernel_rfl
theorem td72 : td Tryz.prog 72 = { ok := true, size := 1, bytes := 8, zok := true, zero := [.nilfn], k := .func } := by kernel_rfl
theorem td73 : td Tryz.prog 73 = { ok := true, size := 3, bytes := 24, zok := true, zero := [.nilfn, .nilfn, .nilfn], k := .struct [(0, 70), (1, 71), (2, 72)] } := by kernel_rfl
theorem td74 : td Tryz.prog 74 = { ok := true, size := 3, bytes := 24, zok := true, zero := [.nilfn, .nilfn, .nilfn], k := .struct [(0, 70), (1, 71), (2, 72)] } := by kernel_rfl
theorem td75 : td Tryz.prog 75 = { ok := true, size := 1, bytes := 8, zok := true, zero := [.nilfn], k := .func } := by kernel_rfl
theorem td76 : td Tryz.prog 76 = { ok := true, size := 1, bytes := 8, zok := true, zero := [.nilfn], k := .func } := by kernel_rfl
theorem td77 : td Tryz.prog 77 = { ok := true, size := 1, bytes := 8, zok := true, zero := [.nilfn], k := .func } := by kernel_rfl
theorem td78 : td Tryz.prog 78 = { ok := true, size := 1, bytes := 8, zok := true, zero := [.nilfn], k := .func } := by kernel_rfl
theorem td79 : td Tryz.prog 79 = { ok := true, size := 3, bytes := 24, zok := true, zero := [.nilfn, .nilfn, .nilfn], k := .struct [(0, 76), (1, 77), (2, 78)] } := by kernel_rfl
theorem td80 : td Tryz.prog 80 = { ok := true, size := 3, bytes := 24, zok := true, zero := [.nilfn, .nilfn, .nilfn], k := .struct [(0, 76), (1, 77), (2, 78)] } := by kernel_rfl
theorem td81 : td Tryz.prog 81 = { ok := true, size := 1, bytes := 8, zok := true, zero := [.nilfn], k := .func } := by kernel_rfl
theorem td82 : td Tryz.prog 82 = { ok := true, size := 1, bytes := 8, zok := true, zero := [.nilfn], k := .func } := by kernel_rfl
theorem td83 : td Tryz.prog 83 = { ok := true, size := 1, bytes := 8, zok := true, zero := [.nilfn], k := .func } := by kernel_rfl
theorem td84 : td Tryz.prog 84 = { ok := true, size := 1, bytes := 8, zok := true, zero := [.nilfn], k := .func } := by kernel_rfl
theorem td85 : td Tryz.prog 85 = { ok := true, size := 3, bytes := 24, zok := true, zero := [.nilfn, .nilfn, .nilfn], k := .struct [(0, 82), (1, 83), (2, 84)] } := by kernel_rfl
theorem td86 : td Tryz.prog 86 = { ok := true, size := 3, bytes := 24, zok := true, zero := [.nilfn, .nilfn, .nilfn], k := .struct [(0, 82), (1, 83), (2, 84)] } := by kernel_rfl
theorem td87 : td Tryz.prog 87 = { ok := true, size := 1, bytes := 8, zok := true, zero := [.nilfn], k := .func } := by kernel_rfl
theorem td88 : td Tryz.prog 88 = { ok := true, size := 1, bytes := 8, zok := true, zero := [.nilfn], k := .func } := by kernel_rfl
theorem td89 : td Tryz.prog 89 = { ok := true, size := 1, bytes := 8, zok := true, zero := [.nilfn], k := .func } := by kernel_rfl
theorem td90 : td Tryz.prog 90 = { ok := true, size := 1, bytes := 8, zok := true, zero := [.nilfn], k := .func } := by kernel_rfl
theorem td91 : td Tryz.prog 91 = { ok := true, size := 1, bytes := 8, zok := true, zero := [.nilfn], k := .func } := by kernel_rfl
theorem td92 : td Tryz.prog 92 = { ok := true, size := 1, bytes := 8, zok := true, zero := [.nilfn], k := .func } := by kernel_rfl
theorem td93 : td Tryz.prog 93 = { ok := true, size := 1, bytes := 8, zok := true, zero := [.nilfn], k := .func } := by kernel_rfl
theorem td94 : td Tryz.prog 94 = { ok := true, size := 1, bytes := 8, zok := true, zero := [.nilfn], k := .func } := by kernel_rfl
theorem td95 : td Tryz.prog 95 = { ok := true, size := 3, bytes := 24, zok := true, zero := [.nilfn, .nilfn, .nilfn], k := .struct [(0, 93), (1, 64), (2, 94)] } := by kernel_rfl
theorem td96 : td Tryz.prog 96 = { ok := true, size := 3, bytes := 24, zok := true, zero := [.nilfn, .nilfn, .nilfn], k := .struct [(0, 93), (1, 64), (2, 94)] } := by kernel_rfl
theorem td97 : td Tryz.prog 97 = { ok := true, size := 1, bytes := 8, zok := true, zero := [.nilfn], k := .func } := by kernel_rfl
theorem td98 : td Tryz.prog 98 = { ok := true, size := 1, bytes := 8, zok := true, zero := [.nilfn], k := .func } := by kernel_rfl
theorem td99 : td Tryz.prog 99 = { ok := true, size := 1, bytes := 8, zok := true, zero := [.nilfn], k := .func } := by kernel_rfl
theorem td100 : td Tryz.prog 100 = { ok := true, size := 1, bytes := 8, zok := true, zero := [.nilfn], k := .func } := by kernel_rfl
theorem td101 : td Tryz.prog 101 = { ok := true, size := 1, bytes := 8, zok := true, zero := [.nilp], k := .ptr 136 } := by kernel_rfl
theorem td102 : td Tryz.prog 102 = { ok := true, size := 1, bytes := 8, zok := true, zero := [.nilfn], k := .func } := by kernel_rfl
theorem td103 : td Tryz.prog 103 = { ok := true, size := 1, bytes := 8, zok := true, zero := [.nilfn], k := .func } := by kernel_rfl
theorem td104 : td Tryz.prog 104 = { ok := true, size := 1, bytes := 8, zok := true, zero := [.nilp], k := .ptr 106 } := by kernel_rfl
theorem td105 : td Tryz.prog 105 = { ok := true, size := 2, bytes := 24, zok := true, zero := [.str ⟨#[]⟩, .int .i64 0], k := .struct [(0, 9), (1, 35)] } := by kernel_rfl
theorem td106 : td Tryz.prog 106 = { ok := true, size := 2, bytes := 24, zok := true, zero := [.str ⟨#[]⟩, .int .i64 0], k := .struct [(0, 9), (1, 35)] } := by kernel_rfl
theorem td107 : td Tryz.prog 107 = { ok := true, size := 1, bytes := 8, zok := true, zero := [.nilfn], k := .func } := by kernel_rfl
theorem td108 : td Tryz.prog 108 = { ok := true, size := 1, bytes := 8, zok := true, zero := [.nilfn], k := .func } := by kernel_rfl
theorem td109 : td Tryz.prog 109 = { ok := true, size := 1, bytes := 8, zok := true, zero := [.nilfn], k := .func } := by kernel_rfl
theorem td110 : td Tryz.prog 110 = { ok := true, size := 1, bytes := 8, zok := true, zero := [.nilfn], k := .func } := by kernel_rfl
theorem td111 : td Tryz.prog 111 = { ok := true, size := 1, bytes := 8, zok := true, zero := [.nilfn], k := .func } := by kernel_rfl
theorem td112 : td Tryz.prog 112 = { ok := true, size := 1, bytes := 8, zok := true, zero := [.nilfn], k := .func } := by kernel_rfl
theorem td113 : td Tryz.prog 113 = { ok := true, size := 1, bytes := 8, zok := true, zero := [.nilfn], k := .func } := by kernel_rfl
theorem td114 : td Tryz.prog 114 = { ok := true, size := 5, bytes := 48, zok := true, zero := [.int .i64 0, .int .i64 0, .int .i64 0, .int .i64 0, .str ⟨#[]⟩], k := .struct [(0, 3), (1, 3), (2, 24)] } := by kernel_rfl
theorem td115 : td Tryz.prog 115 = { ok := true, size := 5, bytes := 48, zok := true, zero := [.int .i64 0, .int .i64 0, .int .i64 0, .int .i64 0, .str ⟨#[]⟩], k := .struct [(0, 3), (1, 3), (2, 24)] } := by kernel_rfl
theorem td116 : td Tryz.prog 116 = { ok := true, size := 27, bytes := 280, zok := true, zero := [.int .i64 0, .int .i64 0, .int .u32 0, .int .i64 0, .int .i64 0, .str ⟨#[]⟩, .int .i64 0, .int .i64 0, .str ⟨#[]⟩, .int .i64 0, .int .i64 0, .str ⟨#[]⟩, .int .i64 0, .int .i64 0, .str ⟨#[]⟩, .int .i64 0, .int .i64 0, .str ⟨#[]⟩, .int .i64 0, .int .i64 0, .str ⟨#[]⟩, .int .i64 0, .int .i64 0, .str ⟨#[]⟩, .int .i64 0, .int .i64 0, .str ⟨#[]⟩], k := .struct [(0, 3), (1, 3), (2, 22), (3, 25)] } := by kernel_rfl
theorem td117 : td Tryz.prog 117 = { ok := true, size := 27, bytes := 280, zok := true, zero := [.int .i64 0, .int .i64 0, .int .u32 0, .int .i64 0, .int .i64 0, .str ⟨#[]⟩, .int .i64 0, .int .i64 0, .str ⟨#[]⟩, .int .i64 0, .int .i64 0, .str ⟨#[]⟩, .int .i64 0, .int .i64 0, .str ⟨#[]⟩, .int .i64 0, .int .i64 0, .str ⟨#[]⟩, .int .i64 0, .int .i64 0, .str ⟨#[]⟩, .int .i64 0, .int .i64 0, .str ⟨#[]⟩, .int .i64 0, .int .i64 0, .str ⟨#[]⟩], k := .struct [(0, 3), (1, 3), (2, 22), (3, 25)] } := by kernel_rfl
theorem td118 : td Tryz.prog 118 = { ok := true, size := 28, bytes := 288, zok := true, zero := [.int .i64 0, .int .i64 0, .int .i64 0, .int .u32 0, .int .i64 0, .int .i64 0, .str ⟨#[]⟩, .int .i64 0, .int .i64 0, .str ⟨#[]⟩, .int .i64 0, .int .i64 0, .str ⟨#[]⟩, .int .i64 0, .int .i64 0, .str ⟨#[]⟩, .int .i64 0, .int .i64 0, .str ⟨#[]⟩, .int .i64 0, .int .i64 0, .str ⟨#[]⟩, .int .i64 0, .int .i64 0, .str ⟨#[]⟩, .int .i64 0, .int .i64 0, .str ⟨#[]⟩], k := .struct [(0, 3), (1, 117)] } := by kernel_rfl
theorem td119 : td Tryz.prog 119 = { ok := true, size := 28, bytes := 288, zok := true, zero := [.int .i64 0, .int .i64 0, .int .i64 0, .int .u32 0, .int .i64 0, .int .i64 0, .str ⟨#[]⟩, .int .i64 0, .int .i64 0, .str ⟨#[]⟩, .int .i64 0, .int .i64 0, .str ⟨#[]⟩, .int .i64 0, .int .i64 0, .str ⟨#[]⟩, .int .i64 0, .int .i64 0, .str ⟨#[]⟩, .int .i64 0, .int .i64 0, .str ⟨#[]⟩, .int .i64 0, .int .i64 0, .str ⟨#[]⟩, .int .i64 0, .int .i64 0, .str ⟨#[]⟩], k := .struct [(0, 3), (1, 117)] } := by kernel_rfl
theorem td120 : td Tryz.prog 120 = { ok := true, size := 1, bytes := 8, zok := true, zero := [.int .u64 0], k := .int .u64 } := by kernel_rfl
theorem td121 : td Tryz.prog 121 = { ok := true, size := 1, bytes := 8, zok := true, zero := [.nilfn], k := .func } := by kernel_rfl
theorem td122 : td Tryz.prog 122 = { ok := true, size := 1, bytes := 8, zok := true, zero := [.nilfn], k := .func } := by kernel_rfl
theorem td123 : td Tryz.prog 123 = { ok := true, size := 1, bytes := 8, zok := true, zero := [.nilfn], k := .func } := by kernel_rfl
theorem td124 : td Tryz.prog 124 = { ok := true, size := 1, bytes := 8, zok := true, zero := [.nilfn], k := .func } := by kernel_rfl
theorem td125 : td Tryz.prog 125 = { ok := true, size := 1, bytes := 8, zok := true, zero := [.nilfn], k := .func } := by kernel_rfl
theorem td126 : td Tryz.prog 126 = { ok := true, size := 1, bytes := 8, zok := true, zero := [.nilfn], k := .func } := by kernel_rfl
theorem td127 : td Tryz.prog 127 = { ok := true, size := 1, bytes := 8, zok := true, zero := [.nilfn], k := .func } := by kernel_rfl
theorem td128 : td Tryz.prog 128 = { ok := true, size := 1, bytes := 8, zok := true, zero := [.nilfn], k := .func } := by kernel_rfl
theorem td129 : td Tryz.prog 129 = { ok := true, size := 1, bytes := 8, zok := true, zero := [.nilfn], k := .func } := by kernel_rfl
theorem td130 : td Tryz.prog 130 = { ok := true, size := 1, bytes := 8, zok := true, zero := [.nilfn], k := .func } := by kernel_rfl
theorem td131 : td Tryz.prog 131 = { ok := true, size := 1, bytes := 8, zok := true, zero := [.nilfn], k := .func } := by kernel_rfl
theorem td132 : td Tryz.prog 132 = { ok := true, size := 1, bytes := 8, zok := true, zero := [.nilfn], k := .func } := by kernel_rfl
theorem td133 : td Tryz.prog 133 = { ok := true, size := 1, bytes := 8, zok := true, zero := [.nilfn], k := .func } := by kernel_rfl
theorem td134 : td Tryz.prog 134 = { ok := true, size := 1, bytes := 8, zok := true, zero := [.nilfn], k := .func } := by kernel_rfl
theorem td135 : td Tryz.prog 135 = { ok := true, size := 3, bytes := 40, zok := true, zero := [.nils, .int .i64 0, .int .i64 0], k := .struct [(0, 63), (1, 3), (2, 35)] } := by kernel_rfl
theorem td136 : td Tryz.prog 136 = { ok := true, size := 3, bytes := 40, zok := true, zero := [.nils, .int .i64 0, .int .i64 0], k := .struct [(0, 63), (1, 3), (2, 35)] } := by kernel_rfl
theorem td137 : td Tryz.prog 137 = { ok := true, size := 1, bytes := 8, zok := true, zero := [.nilfn], k := .func } := by kernel_rfl
theorem td138 : td Tryz.prog 138 = { ok := true, size := 1, bytes := 8, zok := true, zero := [.nilfn], k := .func } := by kernel_rfl
theorem td139 : td Tryz.prog 139 = { ok := true, size := 1, bytes := 8, zok := true, zero := [.nilfn], k := .func } := by kernel_rfl
theorem td140 : td Tryz.prog 140 = { ok := true, size := 1, bytes := 8, zok := true, zero := [.nilfn], k := .func } := by kernel_rfl
theorem td141 : td Tryz.prog 141 = { ok := true, size := 1, bytes := 8, zok := true, zero := [.nilfn], k := .func } := by kernel_rfl
theorem td142 : td Tryz.prog 142 = { ok := true, size := 1, bytes := 8, zok := true, zero := [.nilfn], k := .func } := by kernel_rfl
theorem td143 : td Tryz.prog 143 = { ok := true, size := 1, bytes := 8, zok := true, zero := [.nilfn], k := .func } := by kernel_rfl
theorem td144 : td Tryz.prog 144 = { ok := true, size := 1, bytes := 8, zok := true, zero := [.nilfn], k := .func } := by kernel_rfl
theorem td145 : td Tryz.prog 145 = { ok := true, size := 1, bytes := 8, zok := true, zero := [.nilfn], k := .func } := by kernel_rfl
theorem td146 : td Tryz.prog 146 = { ok := true, size := 1, bytes := 8, zok := true, zero := [.nilp], k := .ptr 32 } := by kernel_rfl
theorem td147 : td Tryz.prog 147 = { ok := true, size := 1, bytes := 8, zok := true, zero := [.nilfn], k := .func } := by kernel_rfl
theorem td148 : td Tryz.prog 148 = { ok := true, size := 1, bytes := 8, zok := true, zero := [.nilfn], k := .func } := by kernel_rfl
theorem td149 : td Tryz.prog 149 = { ok := true, size := 1, bytes := 8, zok := true, zero := [.nilm], k := .map 3 148 } := by kernel_rfl
theorem td150 : td Tryz.prog 150 = { ok := true, size := 1, bytes := 8, zok := true, zero := [.nilfn], k := .func } := by kernel_rfl
theorem td151 : td Tryz.prog 151 = { ok := true, size := 4, bytes := 32, zok := true, zero := [.int .i64 0, .int .i64 0, .int .i64 0, .int .i64 0], k := .array 4 3 } := by kernel_rfl
theorem td152 : td Tryz.prog 152 = { ok := true, size := 1, bytes := 8, zok := true, zero := [.nilfn], k := .func } := by kernel_rfl
theorem td153 : td Tryz.prog 153 = { ok := true, size := 1, bytes := 8, zok := true, zero := [.nilfn], k := .func } := by kernel_rfl
theorem td154 : td Tryz.prog 154 = { ok := true, size := 1, bytes := 8, zok := true, zero := [.nilfn], k := .func } := by kernel_rfl
theorem td155 : td Tryz.prog 155 = { ok := true, size := 1, bytes := 8, zok := true, zero := [.nilfn], k := .func } := by kernel_rfl
theorem td156 : td Tryz.prog 156 = { ok := true, size := 1, bytes := 8, zok := true, zero := [.nilfn], k := .func } := by kernel_rfl
theorem td157 : td Tryz.prog 157 = { ok := true, size := 1, bytes := 8, zok := true, zero := [.nilfn], k := .func } := by kernel_rfl
theorem td158 : td Tryz.prog 158 = { ok := true, size := 1, bytes := 8, zok := true, zero := [.nilfn], k := .func } := by kernel_rfl
theorem td159 : td Tryz.prog 159 = { ok := true, size := 1, bytes := 8, zok := true, zero := [.nilfn], k := .func } := by kernel_rfl
theorem td160 : td Tryz.prog 160 = { ok := true, size := 1, bytes := 8, zok := true, zero := [.nilfn], k := .func } := by kernel_rfl
theorem td161 : td Tryz.prog 161 = { ok := true, size := 1, bytes := 8, zok := true, zero := [.nilfn], k := .func } := by kernel_rfl
theorem td162 : td Tryz.prog 162 = { ok := true, size := 1, bytes := 8, zok := true, zero := [.nilfn], k := .func } := by kernel_rfl
theorem td163 : td Tryz.prog 163 = { ok := true, size := 1, bytes := 8, zok := true, zero := [.nilfn], k := .func } := by kernel_rfl
theorem td164 : td Tryz.prog 164 = { ok := true, size := 1, bytes := 8, zok := true, zero := [.nilfn], k := .func } := by kernel_rfl
theorem td166 : td Tryz.prog 166 = { ok := true, size := 1, bytes := 8, zok := true, zero := [.nilfn], k := .func } := by kernel_rfl
theorem td167 : td Tryz.prog 167 = { ok := true, size := 1, bytes := 8, zok := true, zero := [.nilfn], k := .func } := by kernel_rfl
theorem td168 : td Tryz.prog 168 = { ok := true, size := 1, bytes := 8, zok := true, zero := [.nilfn], k := .func } := by kernel_rfl
theorem td169 : td Tryz.prog 169 = { ok := true, size := 1, bytes := 8, zok := true, zero := [.nilfn], k := .func } := by kernel_rfl
theorem td170 : td Tryz.prog 170 = { ok := true, size := 1, bytes := 8, zok := true, zero := [.nilfn], k := .func } := by kernel_rfl
theorem td171 : td Tryz.prog 171 = { ok := true, size := 1, bytes := 8, zok := true, zero := [.nilfn], k := .func } := by kernel_rfl
theorem td172 : td Tryz.prog 172 = { ok := true, size := 1, bytes := 8, zok := true, zero := [.nilfn], k := .func } := by kernel_rfl
theorem td173 : td Tryz.prog 173 = { ok := true, size := 1, bytes := 8, zok := true, zero := [.nilfn], k := .func } := by kernel_rfl
theorem td174 : td Tryz.prog 174 = { ok := true, size := 1, bytes := 8, zok := true, zero := [.nilfn], k := .func } := by kernel_rfl
theorem td175 : td Tryz.prog 175 = { ok := true, size := 1, bytes := 8, zok := true, zero := [.nilfn], k := .func } := by kernel_rfl
theorem td177 : td Tryz.prog 177 = { ok := true, size := 1, bytes := 8, zok := true, zero := [.nilfn], k := .func } := by kernel_rfl
theorem td178 : td Tryz.prog 178 = { ok := true, size := 1, bytes := 8, zok := true, zero := [.nilfn], k := .func } := by kernel_rfl
theorem td179 : td Tryz.prog 179 = { ok := true, size := 1, bytes := 8, zok := true, zero := [.nilfn], k := .func } := by kernel_rfl
theorem td180 : td Tryz.prog 180 = { ok := true, size := 1, bytes := 8, zok := true, zero := [.nilfn], k := .func } := by kernel_rfl
theorem td181 : td Tryz.prog 181 = { ok := true, size := 1, bytes := 8, zok := true, zero := [.nilfn], k := .func } := by kernel_rfl
theorem td182 : td Tryz.prog 182 = { ok := true, size := 1, bytes := 8, zok := true, zero := [.nilfn], k := .func } := by kernel_rfl
theorem td183 : td Tryz.prog 183 = { ok := true, size := 1, bytes := 24, zok := true, zero := [.nils], k := .slice 3 } := by kernel_rfl
theorem td184 : td Tryz.prog 184 = { ok := true, size := 1, bytes := 8, zok := true, zero := [.nilfn], k := .func } := by kernel_rfl
theorem td185 : td Tryz.prog 185 = { ok := true, size := 1, bytes := 8, zok := true, zero := [.nilfn], k := .func } := by kernel_rfl
theorem td186 : td Tryz.prog 186 = { ok := true, size := 1, bytes := 8, zok := true, zero := [.nilfn], k := .func } := by kernel_rfl
theorem td187 : td Tryz.prog 187 = { ok := true, size := 1, bytes := 8, zok := true, zero := [.nilfn], k := .func } := by kernel_rfl
theorem td188 : td Tryz.prog 188 = { ok := true, size := 1, bytes := 8, zok := true, zero := [.nilfn], k := .func } := by kernel_rfl
theorem td189 : td Tryz.prog 189 = { ok := true, size := 1, bytes := 8, zok := true, zero := [.nilfn], k := .func } := by kernel_rfl
theorem td190 : td Tryz.prog 190 = { ok := true, size := 1, bytes := 8, zok := true, zero := [.nilfn], k := .func } := by kernel_rfl
theorem td191 : td Tryz.prog 191 = { ok := true, size := 1, bytes := 8, zok := true, zero := [.nilfn], k := .func } := by kernel_rfl
theorem td192 : td Tryz.prog 192 = { ok := true, size := 1, bytes := 24, zok := true, zero := [.nils], k := .slice 30 } := by kernel_rfl
theorem td193 : td Tryz.prog 193 = { ok := true, size := 1, bytes := 8, zok := true, zero := [.nilfn], k := .func } := by kernel_rfl
theorem td194 : td Tryz.prog 194 = { ok := true, size := 1, bytes := 8, zok := true, zero := [.nilfn], k := .func } := by kernel_rfl
theorem td195 : td Tryz.prog 195 = { ok := true, size := 1, bytes := 8, zok := true, zero := [.nilfn], k := .func } := by kernel_rfl
theorem td196 : td Tryz.prog 196 = { ok := true, size := 1, bytes := 8, zok := true, zero := [.nilfn], k := .func } := by kernel_rfl
theorem td197 : td Tryz.prog 197 = { ok := true, size := 1, bytes := 8, zok := true, zero := [.nilfn], k := .func } := by kernel_rfl
theorem td198 : td Tryz.prog 198 = { ok := true, size := 1, bytes := 8, zok := true, zero := [.nilfn], k := .func } := by kernel_rfl
theorem td199 : td Tryz.prog 199 = { ok := true, size := 1, bytes := 8, zok := true, zero := [.nilfn], k := .func } := by kernel_rfl
theorem td200 : td Tryz.prog 200 = { ok := true, size := 1, bytes := 8, zok := true, zero := [.nilfn], k := .func } := by kernel_rfl
theorem td201 : td Tryz.prog 201 = { ok := true, size := 1, bytes := 8, zok := true, zero := [.nilfn], k := .func } := by kernel_rfl
theorem td202 : td Tryz.prog 202 = { ok := true, size := 1, bytes := 8, zok := true, zero := [.nilfn], k := .func } := by kernel_rfl
theorem td203 : td Tryz.prog 203 = { ok := true, size := 1, bytes := 8, zok := true, zero := [.nilfn], k := .func } := by kernel_rfl
theorem td204 : td Tryz.prog 204 = { ok := true, size := 1, bytes := 8, zok := true, zero := [.nilfn], k := .func } := by kernel_rfl
theorem td205 : td Tryz.prog 205 = { ok := true, size := 1, bytes := 24, zok := true, zero := [.nils], k := .slice 24 } := by kernel_rfl
theorem td206 : td Tryz.prog 206 = { ok := true, size := 1, bytes := 8, zok := true, zero := [.nilfn], k := .func } := by kernel_rfl
theorem td207 : td Tryz.prog 207 = { ok := true, size := 1, bytes := 8, zok := true, zero := [.nilfn], k := .func } := by kernel_rfl
theorem td208 : td Tryz.prog 208 = { ok := true, size := 1, bytes := 8, zok := true, zero := [.nilfn], k := .func } := by kernel_rfl
theorem td209 : td Tryz.prog 209 = { ok := true, size := 1, bytes := 8, zok := true, zero := [.nilfn], k := .func } := by kernel_rfl
theorem td210 : td Tryz.prog 210 = { ok := true, size := 1, bytes := 8, zok := true, zero := [.nilfn], k := .func } := by kernel_rfl
theorem td211 : td Tryz.prog 211 = { ok := true, size := 32, bytes := 32, zok := true, zero := List.replicate 32 (.int .u8 0), k := .array 32 5 } := by kernel_rfl
theorem td212 : td Tryz.prog 212 = { ok := true, size := 1, bytes := 8, zok := true, zero := [.nilfn], k := .func } := by kernel_rfl
theorem td213 : td Tryz.prog 213 = { ok := true, size := 4, bytes := 40, zok := true, zero := [.nilp, .nilp, .nilp, .str ⟨#[]⟩], k := .struct [(0, 17), (1, 17), (2, 17), (3, 9)] } := by kernel_rfl
theorem td214 : td Tryz.prog 214 = { ok := true, size := 4, bytes := 40, zok := true, zero := [.nilp, .nilp, .nilp, .str ⟨#[]⟩], k := .struct [(0, 17), (1, 17), (2, 17), (3, 9)] } := by kernel_rfl
theorem td215 : td Tryz.prog 215 = { ok := true, size := 0, bytes := 0, zok := true, zero := [], k := .array 0 16 } := by kernel_rfl
theorem td216 : td Tryz.prog 216 = { ok := true, size := 0, bytes := 0, zok := true, zero := [], k := .struct [(0, 215)] } := by kernel_rfl
theorem td217 : td Tryz.prog 217 = { ok := true, size := 0, bytes := 0, zok := true, zero := [], k := .struct [(0, 215)] } := by kernel_rfl
theorem td218 : td Tryz.prog 218 = { ok := true, size := 1, bytes := 1, zok := true, zero := [.int .u8 0], k := .int .u8 } := by kernel_rfl
theorem td219 : td Tryz.prog 219 = { ok := true, size := 1, bytes := 1, zok := true, zero := [.int .u8 0], k := .int .u8 } := by kernel_rfl
theorem td220 : td Tryz.prog 220 = { ok := true, size := 1, bytes := 8, zok := true, zero := [.nilfn], k := .func } := by kernel_rfl
theorem td221 : td Tryz.prog 221 = { ok := true, size := 1, bytes := 8, zok := true, zero := [.nilp], k := .ptr 5 } := by kernel_rfl
theorem td222 : td Tryz.prog 222 = { ok := true, size := 1, bytes := 4, zok := true, zero := [.int .i32 0], k := .int .i32 } := by kernel_rfl
theorem td223 : td Tryz.prog 223 = { ok := true, size := 1, bytes := 4, zok := true, zero := [.int .i32 0], k := .int .i32 } := by kernel_rfl
theorem td224 : td Tryz.prog 224 = { ok := true, size := 11, bytes := 48, zok := true, zero := [.int .u64 0, .int .u64 0, .int .u32 0, .int .u8 0, .int .u8 0, .int .u8 0, .int .u8 0, .nilfn, .nilp, .int .i32 0, .int .i32 0], k := .struct [(0, 12), (1, 12), (2, 22), (3, 218), (4, 5), (5, 5), (6, 219), (7, 220), (8, 221), (9, 222), (10, 223)] } := by kernel_rfl
theorem td225 : td Tryz.prog 225 = { ok := true, size := 11, bytes := 48, zok := true, zero := [.int .u64 0, .int .u64 0, .int .u32 0, .int .u8 0, .int .u8 0, .int .u8 0, .int .u8 0, .nilfn, .nilp, .int .i32 0, .int .i32 0], k := .struct [(0, 12), (1, 12), (2, 22), (3, 218), (4, 5), (5, 5), (6, 219), (7, 220), (8, 221), (9, 222), (10, 223)] } := by kernel_rfl
theorem eqp24 : eqPlain Tryz.prog 24 = true := by kernel_rfl
theorem eqp25 : eqPlain Tryz.prog 25 = true := by kernel_rfl
theorem eqp27 : eqPlain Tryz.prog 27 = true := by kernel_rfl
theorem eqp29 : eqPlain Tryz.prog 29 = true := by kernel_rfl
theorem eqp34 : eqPlain Tryz.prog 34 = true := by kernel_rfl
theorem eqp106 : eqPlain Tryz.prog 106 = true := by kernel_rfl
theorem eqp115 : eqPlain Tryz.prog 115 = true := by kernel_rfl
theorem eqp117 : eqPlain Tryz.prog 117 = true := by kernel_rfl
theorem eqp119 : eqPlain Tryz.prog 119 = true := by kernel_rfl
theorem eqp151 : eqPlain Tryz.prog 151 = true := by kernel_rfl
theorem eqp211 : eqPlain Tryz.prog 211 = true := by kernel_rfl
theorem mixed : Tryz.prog.follows .mixedOrders = true := by kernel_rfl
theorem wD {id : Nat} {l : List Oper} {f : FR} {σ : St} {Q : MQ} (hchk : (chk l.toArray && l.all fun o => plainOp o.op) = true) (h : R (mopsC Tryz.prog (fun _ _ => none) (@OfNat.ofNat (Array Oper) (nat_lit 0) (@_root_.id (OfNat (Array Oper) (nat_lit 0)) (OfNat.mk (l.toArray)))) (Q .normal) (@OfNat.ofNat (List Oper) (nat_lit 0) (@_root_.id (OfNat (List Oper) (nat_lit 0)) (OfNat.mk l))) f σ)) : R (mdraw Tryz.prog id (@OfNat.ofNat (List Oper) (nat_lit 0) (@_root_.id (OfNat (List Oper) (nat_lit 0)) (OfNat.mk l))) f σ Q) := mdraw_plain mixed hchk h
attribute [go_sem] td1 td2 td3 td4 td5 td6 td7 td8 td9 td10 td11 td12 td13 td14 td15 td16 td17 td18 td19 td20 td21 td22 td23 td24 td25 td26 td27 td28 td29 td30 td31 td32 td33 td34 td35 td36 td37 td38 td39 td40 td41 td42 td43 td44 td46 td47 td48 td49 td50 td51 td52 td54 td56 td57 td58 td59 td60 td61 td62 td63 td64 td65 td66 td67 td68 td69 td70 td71 td72 td73 td74 td75 td76 td77 td78 td79 td80 td81 td82 td83 td84 td85 td86 td87 td88 td89 td90 td91 td92 td93 td94 td95 td96 td97 td98 td99 td100 td101 td102 td103 td104 td105 td106 td107 td108 td109 td110 td111 td112 td113 td114 td115 td116 td117 td118 td119 td120 td121 td122 td123 td124 td125 td126 td127 td128 td129 td130 td131 td132 td133 td134 td135 td136 td137 td138 td139 td140 td141 td142 td143 td144 td145 td146 td147 td148 td149 td150 td151 td152 td153 td154 td155 td156 td157 td158 td159 td160 td161 td162 td163 td164 td166 td167 td168 td169 td170 td171 td172 td173 td174 td175 td177 td178 td179 td180 td181 td182 td183 td184 td185 td186 td187 td188 td189 td190 td191 td192 td193 td194 td195 td196 td197 td198 td199 td200 td201 td202 td203 td204 td205 td206 td207 td208 td209 td210 td211 td212 td213 td214 td215 td216 td217 td218 td219 td220 td221 td222 td223 td224 td225 eqp24 eqp25 eqp27 eqp29 eqp34 eqp106 eqp115 eqp117 eqp119 eqp151 eqp211
end Go.Proofs.YtfbodefnblpflaaGreatDoor
end

section
/- Ghost steps for rows whose elements are rows: an element that was grown apart is frozen. -/
set_option linter.unusedVariables false
set_option linter.unusedSimpArgs false
namespace Go.Proofs.YtfbodefnblpflaaGreatDoor
theorem Weak.view {σ : St} {m m' : MV} (h : Weak m m') : View σ m m' := by
  cases h with
  | same => exact .same _
  | junk => exact .junk _
  | nil e t => exact .nil e t
  | tight e xs => exact .tight e xs
/-- An element's one cell, grown apart, is frozen. -/
theorem Ghost.nest {n : Nat} {l l1 : List (Nat × MV)} {d : List (FuncId × List MV)} {σ : St} {q m : Nat} {t t1 : TypeId} {e1 : Nat} {pre post ys : List (List MV)} {n1 : Nat} (σ2 : St)
    (hm : σ m = some (.row t1 e1 ys)) (hq : σ q = some (.row t 1 (pre ++ [.vec e1 m 0 n1] :: post))) (hn : n1 = ys.length) (h2 : σ2.le σ) (h2m : σ2 m = none) (hne : q ≠ m)
    (hw : ∀ p, p ∈ l1 → Weak (lget l p.1) p.2) : Ghost ⟨n, l, d⟩ σ ⟨n, l1, d⟩ (σ2.set q (.row t 1 (pre ++ [.lst e1 ys false] :: post))) := by
  subst hn
  have hv : (St.none.set m (.row t1 e1 ys)) m = some (.row t1 e1 ys) := set_hit _ _ _
  refine Ghost.freezeIn (St.none.set m (.row t1 e1 ys)) (St.set_le (St.none_le _) hm) (fun k o1 hk => ?_) (fun k o hk => ?_) fun p hp => (hw p hp).view
  · by_cases h : k = q
    · subst h
      rw [set_hit] at hk
      cases hk
      refine ⟨_, hq, .inr ⟨t, 1, _, _, rfl, rfl, by simp, fun i x x1 hx hx1 => ?_⟩⟩
      rcases Nat.lt_trichotomy i pre.length with hi | hi | hi
      · rw [List.getElem?_append_left hi] at hx hx1
        rw [hx] at hx1; cases hx1
        exact ⟨rfl, fun j a b ha hb => by rw [ha] at hb; cases hb; exact .inl rfl⟩
      · subst hi
        rw [List.getElem?_append_right (Nat.le_refl _), Nat.sub_self] at hx hx1
        simp only [List.getElem?_cons_zero, Option.some.injEq] at hx hx1
        subst hx; subst hx1
        refine ⟨rfl, fun j a b ha hb => ?_⟩
        cases j with
        | zero =>
          simp only [List.getElem?_cons_zero, Option.some.injEq] at ha hb
          subst ha; subst hb
          exact .inr ⟨rfl, .vecAll hv rfl⟩
        | succ j => simp at ha
      · rw [List.getElem?_append_right (by omega)] at hx hx1
        obtain ⟨j, hj⟩ : ∃ j, i - pre.length = j + 1 := ⟨i - pre.length - 1, by omega⟩
        rw [hj, List.getElem?_cons_succ] at hx hx1
        rw [hx] at hx1; cases hx1
        exact ⟨rfl, fun j a b ha hb => by rw [ha] at hb; cases hb; exact .inl rfl⟩
    · rw [set_miss _ _ _ _ h] at hk
      exact ⟨o1, h2 k o1 hk, .inl rfl⟩
  · by_cases h : k = m
    · subst h
      by_cases hq' : k = q
      · exact absurd hq'.symm hne
      · rw [set_miss _ _ _ _ hq', h2m] at hk; cases hk
    · exact set_miss _ _ _ _ h ▸ rfl
/-- A call whose arguments are seen as more than they are: what they lie in is given away. -/
theorem MCalls.pre {P : Program} {g : FuncId} {ms ms' : List MV} {σ σ2 : St} {Q : MV → St → Prop} (hl : ms.length = ms'.length) (hg : Ghost ⟨ms.length, args0 0 ms, []⟩ σ ⟨ms.length, args0 0 ms', []⟩ σ2) (h : MCalls P g ms' σ2 Q) : MCalls P g ms σ Q := by
  refine ⟨h.1, fun Φ w vs hi hr => ?_⟩
  obtain ⟨-, hg⟩ := hg
  obtain ⟨Φ1, i1, r1, s1⟩ := hg Φ w vs hi ⟨hr.1, fun t => by
    simp only [FR.get, args0_get, Nat.sub_zero, Nat.zero_le, if_true]
    cases hm : ms[t]? with
    | none => exact .junk _
    | some m => exact hr.2 t m hm⟩
  refine (h.2 Φ1 w vs i1 ⟨hr.1.trans hl, fun i m hm => ?_⟩).mono ?_
  · have := r1.2 i
    simp only [FR.get, args0_get, Nat.sub_zero, Nat.zero_le, if_true, hm] at this
    exact this
  · rintro e w' ⟨v, mv, σ', Φ', rfl, q1, q2, q3, hq⟩
    exact ⟨v, mv, σ', Φ', rfl, q1, q2, s1.trans q3, hq⟩
theorem mem_args0 : ∀ {ms : List MV} {i : Nat} {p : Nat × MV}, p ∈ args0 i ms → ∃ j, p.1 = i + j ∧ ms[j]? = some p.2
  | [], _, _, h => by simp [args0] at h
  | m :: ms, i, p, h => by
    rw [args0, List.mem_cons] at h
    rcases h with rfl | h
    · exact ⟨0, rfl, rfl⟩
    · obtain ⟨j, h1, h2⟩ := mem_args0 h
      exact ⟨j + 1, by omega, by simpa using h2⟩
theorem use_give {P : Program} {g : FuncId} {ms : List MV} (ms' : List MV) {σ : St} (σv σ2 : St) {r : MV} {k : MV → St → Prop} (h : MCalls P g ms' St.none fun v _ => v = r) (hle : σv.le σ) (h2 : σ2.le σ) (hd : ∀ k o, σ2 k = some o → σv k = none)
    (hl : ms.length = ms'.length) (hv : ∀ (i : Nat) (m m' : MV), ms[i]? = some m → ms'[i]? = some m' → View σv m m') (hk : R (mlet r σ2 k)) : R (mcallE P g ms σ k) := by
  refine MCalls.pre hl (Ghost.freeze σv hle h2 hd fun p hp => ?_) (use_pure h hk)
  obtain ⟨j, h1, h3⟩ := mem_args0 hp
  rw [h1, args0_get]
  simp only [Nat.zero_add, Nat.zero_le, if_true, Nat.sub_zero]
  have hj := (List.getElem?_eq_some_iff.1 h3).1
  obtain ⟨m, hm⟩ : ∃ m, ms[j]? = some m := ⟨ms[j]'(by omega), by simp⟩
  rw [hm]
  exact hv j m _ hm h3
/-- Nothing is given away. -/
theorem use_weak {P : Program} {g : FuncId} {ms : List MV} (ms' : List MV) {σ : St} {r : MV} {k : MV → St → Prop} (h : MCalls P g ms' St.none fun v _ => v = r)
    (hl : ms.length = ms'.length) (hv : ∀ (i : Nat) (m m' : MV), ms[i]? = some m → ms'[i]? = some m' → View St.none m m') (hk : R (mlet r σ k)) : R (mcallE P g ms σ k) :=
  use_give ms' St.none σ h (St.none_le _) (St.le_refl _) (fun _ _ _ => rfl) hl hv hk
theorem views_one {σ : St} {a a' : MV} (h : View σ a a') : ∀ (i : Nat) (m m' : MV), [a][i]? = some m → [a'][i]? = some m' → View σ m m' := fun i m m' h1 h2 => by
  match i, h1, h2 with
  | 0, h1, h2 => simp only [List.getElem?_cons_zero, Option.some.injEq] at h1 h2; subst h1 h2; exact h
theorem views_two {σ : St} {a b a' b' : MV} (h : View σ a a') (k : View σ b b') : ∀ (i : Nat) (m m' : MV), [a, b][i]? = some m → [a', b'][i]? = some m' → View σ m m' := fun i m m' h1 h2 => by
  match i, h1, h2 with
  | 0, h1, h2 => simp only [List.getElem?_cons_zero, Option.some.injEq] at h1 h2; subst h1 h2; exact h
  | 1, h1, h2 => simp only [List.getElem?_cons_succ, List.getElem?_cons_zero, Option.some.injEq] at h1 h2; subst h1 h2; exact k
end Go.Proofs.YtfbodefnblpflaaGreatDoor
end

section
/- Bytes and readers, as the logic has them. -/
set_option linter.unusedVariables false
set_option linter.unusedSimpArgs false
namespace Go.Proofs.YtfbodefnblpflaaGreatDoor
theorem bsS_append (a b : BL) : bsS a ++ bsS b = bsS (a ++ b) := by
  unfold bsS
  exact ByteArray.ext (by rw [ByteArray.data_append]; simp)
theorem bytesOf_bc (l : BL) : bytesOf (l.map bc) = bsS l := by
  unfold bytesOf bsS
  congr 1
  rw [List.map_map]
  congr 1
  conv => rhs; rw [← List.map_id l]
  apply List.map_congr_left
  intro b _
  simp
theorem isByte_bc (l : BL) : (l.map bc).all isByte = true := by
  rw [List.all_eq_true]
  intro x hx
  obtain ⟨b, _, rfl⟩ := List.mem_map.1 hx
  rfl
theorem bc_of {n : Nat} (h : n < 256) : [MV.int .u8 (n : Int)] = bc (UInt8.ofNat n) := by rw [bc, u8_of h]
theorem wrap8 (v : Nat) : IntKind.u8.wrap (v : Int) = ((v % 256 : Nat) : Int) := by
  unfold IntKind.wrap
  simp [IntKind.bits, IntKind.signed]
theorem or128 : ∀ x : Nat, x < 256 → orK .u8 (x : Int) 128 = ((x % 128 + 128 : Nat) : Int) := by decide +kernel
theorem or8 (v : Nat) : orK .u8 (IntKind.u8.wrap (v : Int)) 128 = ((v % 128 + 128 : Nat) : Int) := by
  rw [wrap8]
  rw [or128 _ (Nat.mod_lt _ (by decide))]
  congr 2
  omega
/-- What is left of a reader's bytes is what stands behind. -/
class Sfx (bs : BL) (r : RD) : Prop where
  h : r.l <:+ bs
instance {bs : BL} {c : Prop} [Decidable c] {r s : RD} [h : Sfx bs r] [k : Sfx bs s] : Sfx bs (if c then r else s) := by
  split
  · exact h
  · exact k
theorem Sfx.len {bs : BL} {r : RD} (h : Sfx bs r) : r.l.length ≤ bs.length := h.h.length_le
theorem Sfx.drop {bs : BL} {r : RD} (h : Sfx bs r) : bs.drop (bs.length - r.l.length) = r.l := by
  obtain ⟨a, e⟩ := h.h
  rw [← e]
  simp
/-- Slots as they were, or an empty slice that becomes a row. -/
def rowS (l : List (Nat × MV)) (e k : Nat) : List (Nat × MV) → Prop
  | [] => True
  | p :: r => (lget l p.1 = p.2 ∨ (p.2 = .vec e k 0 0 ∧ (lget l p.1 = .nils ∨ lget l p.1 = .lst e [] true))) ∧ rowS l e k r
theorem rowS_all {l : List (Nat × MV)} {e k : Nat} : ∀ {l1 : List (Nat × MV)}, rowS l e k l1 → ∀ p, p ∈ l1 → lget l p.1 = p.2 ∨ (p.2 = .vec e k 0 0 ∧ (lget l p.1 = .nils ∨ lget l p.1 = .lst e [] true))
  | [], _, p, hp => absurd hp (List.not_mem_nil)
  | q :: r, h, p, hp => by
    rcases List.mem_cons.1 hp with rfl | hp
    · exact h.1
    · exact rowS_all h.2 p hp
theorem Gh.rowNew {n : Nat} {l : List (Nat × MV)} {d : List (FuncId × List MV)} {σ : St} {K : FR → St → Prop} (t : TypeId) (e : Nat) (l1 : Nat → List (Nat × MV)) (h1 : ∀ k, rowS l e k (l1 k))
    (h : ∀ k, σ k = none → Gh ⟨n, l1 k, d⟩ (σ.set k (.row t e [])) K) : Gh ⟨n, l, d⟩ σ K := Gh.row t e l1 (fun k => rowS_all (h1 k)) h
/-- Of what there is behind a call, one object is told of. -/
theorem MCalls.obj {P : Program} {g : FuncId} {ms : List MV} {σ : St} {X : MV} {l : Nat} {o : MObj} (h : MCalls P g ms σ fun v σ' => v = X ∧ σ' l = some o) : MCalls P g ms σ fun v σ' => v = X ∧ σ' = St.none.set l o :=
  h.less fun v σ' k => ⟨St.none.set l o, St.set_le (St.none_le _) k.2, k.1, rfl⟩
end Go.Proofs.YtfbodefnblpflaaGreatDoor
end

section
/- Contracts of the document's numbers, texts and truths as bytes: the conditions that the theorems name. -/
set_option linter.unusedVariables false
set_option linter.unusedSimpArgs false
namespace Go.Proofs.YtfbodefnblpflaaGreatDoor
theorem bytesOf_one {x : Int} : bytesOf [[MV.int .u8 x]] = bsS [UInt8.ofNat x.toNat] := rfl
theorem isByte_one {x : Int} : isByte [MV.int .u8 x] = true := rfl
theorem tmod128 (v : Nat) : (v : Int).tmod 128 = ((v % 128 : Nat) : Int) := rfl
theorem tdiv128 (v : Nat) : (v : Int).tdiv 128 = ((v / 128 : Nat) : Int) := rfl
theorem pow128 : 128 ^ (5 + 1) = 4398046511104 := by decide
theorem rnum_call (n : Int) : MCalls Tryz.prog 26 [.int .i64 n] St.none (fun r _ => r = .str (bsS (numB n))) := by
  refine MCalls.drops (MCalls.body 26 [.tmp 2] Tryz.func26 rfl rfl rfl rfl ?_)
  repeat' (first | (with_reducible first | (refine wT ?_; refine wN fun _ hnl => ?_; revert hnl; (repeat refine wS fun _ _ => ?_); intro hnl) | refine wD (by decide +kernel) ?_ | refine wI (fun h => ?_) fun h => ?_ | refine wF (fun h => ?_) fun h => ?_ | refine wG (fun h => ?_) fun h => ?_ | refine wH (fun h => ?_) fun h => ?_ | ((first | refine mfork_bool (fun h => ?_) fun h => ?_ | refine mgfork_bool (fun h => ?_) fun h => ?_) <;> simp only [h])) | simp (maxSteps := 4000000) (disch := first | decide | assumption | omega | (simp only [wL]; omega)) only [go_sem, simprocAttr, Tryz.f26])
  refine mloop_intro (α := Nat × Nat × BL) (fun a => ⟨26, [(4, .str (bsS a.2.2)), (3, .int .i64 (a.2.1 : Int))], []⟩) (fun _ => St.none) (fun a => a.2.1 < 128 ^ (a.1 + 1) ∧ numB n = a.2.2 ++ numF a.1 a.2.1 ∧ a.2.2.length + a.1 ≤ 5) (fun a => a.1) ?_ ?_
  · refine .of (.less ?_ (St.le_refl _)) ⟨(5, (min (max n 0) big).toNat, []), rfl, rfl, ⟨by simp only; rw [pow128]; unfold big; omega, rfl, Nat.le_refl _⟩⟩
    simp (maxSteps := 4000000) (disch := first | decide | assumption | omega | (simp only [wL]; omega)) only [go_sem, simprocAttr, weak_int, weak_same]
    refine ⟨.same _, ?_⟩
    unfold big; split <;> split <;> omega
  · rintro ⟨k, v, pre⟩ ⟨h1, h2, h3⟩
    simp only at h1 h2 h3 ⊢
    have hv : v ≤ 4398046511104 := by
      have : 128 ^ (k + 1) ≤ 128 ^ (5 + 1) := Nat.pow_le_pow_right (by decide) (by omega)
      rw [pow128] at this; omega
    by_cases h128 : 128 ≤ v
    · cases k with
      | zero => simp at h1; omega
      | succ k =>
        rw [numF, if_neg (by omega)] at h2
        have hk := Nat.mod_lt v (show 0 < 128 by decide)
        have hto : (((v % 128 : Nat) : Int) + 128).toNat = v % 128 + 128 := by omega
        repeat' (first | (with_reducible first | (refine wT ?_; refine wN fun _ hnl => ?_; revert hnl; (repeat refine wS fun _ _ => ?_); intro hnl) | refine wD (by decide +kernel) ?_ | refine wI (fun h => ?_) fun h => ?_ | refine wF (fun h => ?_) fun h => ?_ | refine wG (fun h => ?_) fun h => ?_ | refine wH (fun h => ?_) fun h => ?_ | ((first | refine mfork_bool (fun h => ?_) fun h => ?_ | refine mgfork_bool (fun h => ?_) fun h => ?_) <;> simp only [h])) | simp (maxSteps := 4000000) (disch := first | decide | assumption | omega | (simp only [wL]; omega)) only [go_sem, simprocAttr, bytesOf_one, bsS_append, isByte_one, tmod128, tdiv128, bsS_size, List.length_cons, List.length_nil, hto])
        refine .of (.less ?_ (St.none_le _)) ⟨(k, v / 128, pre ++ [UInt8.ofNat (v % 128 + 128)]), rfl, rfl, ⟨by simp only; rw [Nat.pow_succ] at h1; omega, by simp only; rw [h2]; simp, by simp only [List.length_append, List.length_cons, List.length_nil]; omega⟩, by simp only; omega⟩
        simp (maxSteps := 4000000) (disch := first | decide | assumption | omega | (simp only [wL]; omega)) only [go_sem, simprocAttr, weak_int, weak_same]
        all_goals done
    · have e : numF k v = [UInt8.ofNat v] := by cases k <;> simp only [numF] <;> rw [if_pos (by omega)]
      rw [e] at h2
      have hto : (v : Int).toNat = v := rfl
      repeat' (first | (with_reducible first | (refine wT ?_; refine wN fun _ hnl => ?_; revert hnl; (repeat refine wS fun _ _ => ?_); intro hnl) | refine wD (by decide +kernel) ?_ | refine wI (fun h => ?_) fun h => ?_ | refine wF (fun h => ?_) fun h => ?_ | refine wG (fun h => ?_) fun h => ?_ | refine wH (fun h => ?_) fun h => ?_ | ((first | refine mfork_bool (fun h => ?_) fun h => ?_ | refine mgfork_bool (fun h => ?_) fun h => ?_) <;> simp only [h])) | simp (maxSteps := 4000000) (disch := first | decide | assumption | omega | (simp only [wL]; omega)) only [go_sem, simprocAttr, bytesOf_one, bsS_append, isByte_one, bsS_size, List.length_cons, List.length_nil, hto, ← h2])
      exact ⟨_, St.le_refl _⟩
theorem rstr_call (s : BL) (hs : s.length ≤ 1000000) : MCalls Tryz.prog 168 [.str (bsS s)] St.none (fun r _ => r = .str (bsS (strB s))) := by
  refine (MCalls.body 8 [.tmp 2] Tryz.func168 rfl rfl rfl rfl ?_)
  have h := rnum_call (s.length : Int)
  have hl := numF_len 5 (min (max (s.length : Int) 0) big).toNat
  have hl2 : (numB s.length).length ≤ 6 := hl
  repeat' (first | (with_reducible first | refine up h ?_) | (with_reducible first | (refine wT ?_; refine wN fun _ hnl => ?_; revert hnl; (repeat refine wS fun _ _ => ?_); intro hnl) | refine wD (by decide +kernel) ?_ | refine wI (fun h => ?_) fun h => ?_ | refine wF (fun h => ?_) fun h => ?_ | refine wG (fun h => ?_) fun h => ?_ | refine wH (fun h => ?_) fun h => ?_ | ((first | refine mfork_bool (fun h => ?_) fun h => ?_ | refine mgfork_bool (fun h => ?_) fun h => ?_) <;> simp only [h])) | simp (maxSteps := 4000000) (disch := first | decide | assumption | omega | (simp only [wL]; omega)) only [go_sem, simprocAttr, Tryz.f168, bsS_append, bsS_size])
  rfl
theorem rflag_call (b : Bool) : MCalls Tryz.prog 73 [.bool b] St.none (fun r _ => r = .str (bsS (flagB b))) := by
  refine (MCalls.body 6 [.tmp 2] Tryz.func73 rfl rfl rfl rfl ?_)
  have h1 := rnum_call 1
  have h0 := rnum_call 0
  cases b
  all_goals
    repeat' (first | (with_reducible first | refine up h1 ?_ | refine up h0 ?_) | (with_reducible first | (refine wT ?_; refine wN fun _ hnl => ?_; revert hnl; (repeat refine wS fun _ _ => ?_); intro hnl) | refine wD (by decide +kernel) ?_ | refine wI (fun h => ?_) fun h => ?_ | refine wF (fun h => ?_) fun h => ?_ | refine wG (fun h => ?_) fun h => ?_ | refine wH (fun h => ?_) fun h => ?_ | ((first | refine mfork_bool (fun h => ?_) fun h => ?_ | refine mgfork_bool (fun h => ?_) fun h => ?_) <;> simp only [h])) | simp (maxSteps := 4000000) (disch := first | decide | assumption | omega | (simp only [wL]; omega)) only [go_sem, simprocAttr, Tryz.f73])
    try rfl
theorem bsS_toList (l : BL) : (bsS l).toList = l := by
  refine List.ext_getElem? fun n => ?_
  rw [← toList_get (bsS l) n]
  by_cases h : n < l.length
  · have h' : n < (bsS l).size := by rw [bsS_size]; exact h
    rw [getElem?_pos (bsS l) n h', List.getElem?_eq_getElem h]
    simp [bsS, ByteArray.getElem_eq_getElem_data]
  · have h' : ¬ n < (bsS l).size := by rw [bsS_size]; exact h
    rw [getElem?_neg (bsS l) n h', List.getElem?_eq_none (by omega)]
end Go.Proofs.YtfbodefnblpflaaGreatDoor
end

section
/- How a number is read, byte by byte. No program in sight. -/
set_option linter.unusedVariables false
set_option linter.unusedSimpArgs false
namespace Go.Proofs.YtfbodefnblpflaaGreatDoor
def val : BL → Nat
  | [] => 0
  | c :: l => c.toNat % 128 + 128 * val l
end Go.Proofs.YtfbodefnblpflaaGreatDoor
end

section
/- Contract of the reference's Has: the conditions that the theorem names. -/
set_option linter.unusedVariables false
set_option linter.unusedSimpArgs false
namespace Go.Proofs.YtfbodefnblpflaaGreatDoor
/-- Bit n of s. -/
def hasB (s : Nat) (n : Int) : Bool := decide (0 ≤ n ∧ n ≤ 31 ∧ s / 2 ^ n.toNat % 2 = 1)
theorem half_pow (s : Nat) (k : Nat) : s / 2 ^ k / 2 = s / 2 ^ (k + 1) := by
  rw [Nat.pow_succ, Nat.div_div_eq_div_mul]
set_option maxHeartbeats 2000000 in
theorem rhas_call (s : Nat) (n : Int) (h1 : s < 4294967296) : MCalls Tryz.prog 130 [.int .u32 (s : Int), .int .i64 n] St.none (fun r _ => r = .bool (hasB s n)) := by
  refine (MCalls.body 22 [.tmp 4] Tryz.func130 rfl rfl rfl rfl ?_)
  by_cases hn : n < 0 ∨ 31 < n
  · repeat' (first | (with_reducible first | (refine wN fun nl hnl => ?_; revert hnl; (repeat refine wS fun _ _ => ?_); intro hnl) | refine wD (by decide +kernel) ?_ | refine wI (fun h => ?_) fun h => ?_ | refine wF (fun h => ?_) fun h => ?_ | refine wG (fun h => ?_) fun h => ?_ | refine wH (fun h => ?_) fun h => ?_ | ((first | refine mfork_bool (fun h => ?_) fun h => ?_ | refine mgfork_bool (fun h => ?_) fun h => ?_) <;> simp only [h])) | simp (maxSteps := 4000000) (disch := first | decide | assumption | omega | (simp only [wL]; omega)) only [go_sem, simprocAttr, Tryz.f130])
    all_goals simp only [hasB, MV.bool.injEq, Bool.false_eq, decide_eq_false_iff_not]
    all_goals omega
  · obtain ⟨m, rfl⟩ : ∃ m : Nat, n = m := ⟨n.toNat, by omega⟩
    repeat' (first | (with_reducible first | (refine wN fun nl hnl => ?_; revert hnl; (repeat refine wS fun _ _ => ?_); intro hnl) | refine wD (by decide +kernel) ?_ | refine wI (fun h => ?_) fun h => ?_ | refine wF (fun h => ?_) fun h => ?_ | refine wG (fun h => ?_) fun h => ?_ | refine wH (fun h => ?_) fun h => ?_ | ((first | refine mfork_bool (fun h => ?_) fun h => ?_ | refine mgfork_bool (fun h => ?_) fun h => ?_) <;> simp only [h])) | simp (maxSteps := 4000000) (disch := first | decide | assumption | omega | (simp only [wL]; omega)) only [go_sem, simprocAttr, Tryz.f130])
    refine mloop_intro (α := Nat) (fun a => ⟨22, [(5, .int .i64 (a : Int)), (0, .int .u32 ((s / 2 ^ a : Nat) : Int)), (1, .int .i64 (m : Int))], []⟩) (fun _ => St.none)
      (fun a => a ≤ m) (fun a => m - a) (.of (.less ?_ (St.le_refl _)) ⟨0, rfl, rfl, Nat.zero_le _⟩) ?_
    · simp (maxSteps := 4000000) (disch := first | decide | assumption | omega | (simp only [wL]; omega)) only [go_sem, simprocAttr, weak_int, weak_same, Nat.pow_zero, Nat.div_one]
      all_goals rfl
    · intro k hk
      have hk : k ≤ m := hk
      have hb : s / 2 ^ k < 4294967296 := Nat.lt_of_le_of_lt (Nat.div_le_self ..) h1
      by_cases hlt : k < m
      · repeat' (first | (with_reducible first | (refine wN fun nl hnl => ?_; revert hnl; (repeat refine wS fun _ _ => ?_); intro hnl) | refine wD (by decide +kernel) ?_ | refine wI (fun h => ?_) fun h => ?_ | refine wF (fun h => ?_) fun h => ?_ | refine wG (fun h => ?_) fun h => ?_ | refine wH (fun h => ?_) fun h => ?_ | ((first | refine mfork_bool (fun h => ?_) fun h => ?_ | refine mgfork_bool (fun h => ?_) fun h => ?_) <;> simp only [h])) | simp (maxSteps := 4000000) (disch := first | decide | assumption | omega | (simp only [wL]; omega)) only [go_sem, simprocAttr, Nat.add_zero])
        refine .of (.less (l1 := [(5, .int .i64 ((k + 1 : Nat) : Int)), (0, .int .u32 ((s / 2 ^ (k + 1) : Nat) : Int)), (1, .int .i64 (m : Int))]) ?_ (St.le_refl _)) ⟨k + 1, rfl, rfl, by omega, by omega⟩
        rw [← half_pow]
        have ew : IntKind.u32.wrap (((s / 2 ^ k : Nat) : Int).tdiv 2) = ((s / 2 ^ k / 2 : Nat) : Int) := by
          generalize s / 2 ^ k = w at hb ⊢
          have e2 : ((w : Int)).tdiv 2 = ((w / 2 : Nat) : Int) := by
            rw [Int.tdiv_eq_ediv_of_nonneg (by omega)]
            omega
          rw [e2]
          simp only [IntKind.wrap, IntKind.signed, IntKind.bits]
          simp
          omega
        simp (maxSteps := 4000000) (disch := first | decide | assumption | omega | (simp only [wL]; omega)) only [go_sem, simprocAttr, weak_int, weak_same, ew]
        all_goals rfl
      · have : k = m := by omega
        subst this
        repeat' (first | (with_reducible first | (refine wN fun nl hnl => ?_; revert hnl; (repeat refine wS fun _ _ => ?_); intro hnl) | refine wD (by decide +kernel) ?_ | refine wI (fun h => ?_) fun h => ?_ | refine wF (fun h => ?_) fun h => ?_ | refine wG (fun h => ?_) fun h => ?_ | refine wH (fun h => ?_) fun h => ?_ | ((first | refine mfork_bool (fun h => ?_) fun h => ?_ | refine mgfork_bool (fun h => ?_) fun h => ?_) <;> simp only [h])) | simp (maxSteps := 4000000) (disch := first | decide | assumption | omega | (simp only [wL]; omega)) only [go_sem, simprocAttr])
        simp only [hasB, Int.toNat_natCast, MV.bool.injEq]
        have e2 : (((s / 2 ^ k : Nat) : Int).tmod 2) = ((s / 2 ^ k % 2 : Nat) : Int) := by
          generalize s / 2 ^ k = w at hb ⊢
          rw [Int.tmod_eq_emod_of_nonneg (by omega)]
          omega
        refine decide_eq_decide.mpr ?_
        rw [e2]
        generalize s / 2 ^ k % 2 = w
        omega
end Go.Proofs.YtfbodefnblpflaaGreatDoor
end

section
/- Contracts of the document's own functions for values and filters: the conditions that each theorem names. -/
set_option linter.unusedVariables false
set_option linter.unusedSimpArgs false
namespace Go.Proofs.YtfbodefnblpflaaGreatDoor
theorem rparts_call (op : Int) : MCalls Tryz.prog 170 [.int .i64 op] St.none (fun r _ => r = .int .i64 (parts op)) := by
  refine (MCalls.body 11 [.tmp 2] Tryz.func170 rfl rfl rfl rfl ?_)
  repeat' (first | (with_reducible first | (refine wN fun nl hnl => ?_; revert hnl; (repeat refine wS fun _ _ => ?_); intro hnl) | refine wD (by decide +kernel) ?_ | refine wI (fun h => ?_) fun h => ?_ | refine wF (fun h => ?_) fun h => ?_ | refine wG (fun h => ?_) fun h => ?_ | refine wH (fun h => ?_) fun h => ?_ | ((first | refine mfork_bool (fun h => ?_) fun h => ?_ | refine mgfork_bool (fun h => ?_) fun h => ?_) <;> simp only [h])) | simp (maxSteps := 4000000) (disch := first | decide | assumption | omega | (simp only [wL]; omega)) only [go_sem, simprocAttr, Tryz.f170])
  all_goals simp [parts, *]
theorem rvcheck_call (kd n : Int) (s : ByteArray) : MCalls Tryz.prog 135 [.agg [.int .i64 kd, .int .i64 n, .str s]] St.none (fun r _ => r = .bool (vaOk ⟨kd, n, s⟩)) := by
  refine (MCalls.body 41 [.tmp 2] Tryz.func135 rfl rfl rfl rfl ?_)
  repeat' (first | (with_reducible first | (refine wN fun nl hnl => ?_; revert hnl; (repeat refine wS fun _ _ => ?_); intro hnl) | refine wD (by decide +kernel) ?_ | refine wI (fun h => ?_) fun h => ?_ | refine wF (fun h => ?_) fun h => ?_ | refine wG (fun h => ?_) fun h => ?_ | refine wH (fun h => ?_) fun h => ?_ | ((first | refine mfork_bool (fun h => ?_) fun h => ?_ | refine mgfork_bool (fun h => ?_) fun h => ?_) <;> simp only [h])) | simp (maxSteps := 4000000) (disch := first | decide | assumption | omega | (simp only [wL]; omega)) only [go_sem, simprocAttr, Tryz.f135])
  all_goals simp [vaOk, va0, *]
  all_goals omega
set_option maxHeartbeats 2000000 in
theorem rnode_call (x : ND) : MCalls Tryz.prog 136 [.agg x.c] St.none (fun r _ => r = .bool (ndOk x)) := by
  refine (MCalls.body 86 [.tmp 2] Tryz.func136 rfl rfl rfl rfl ?_)
  obtain ⟨op, n, kd, vn, s⟩ := x
  repeat' (first | (with_reducible refine use_pure (rvcheck_call _ _ _) ?_) | (with_reducible first | (refine wN fun nl hnl => ?_; revert hnl; (repeat refine wS fun _ _ => ?_); intro hnl) | refine wD (by decide +kernel) ?_ | refine wI (fun h => ?_) fun h => ?_ | refine wF (fun h => ?_) fun h => ?_ | refine wG (fun h => ?_) fun h => ?_ | refine wH (fun h => ?_) fun h => ?_ | ((first | refine mfork_bool (fun h => ?_) fun h => ?_ | refine mgfork_bool (fun h => ?_) fun h => ?_) <;> simp only [h])) | simp (maxSteps := 4000000) (disch := first | decide | assumption | omega | (simp only [wL]; omega)) only [go_sem, simprocAttr, Tryz.f136])
  all_goals first
    | (simp [ndOk, va0, *]; done)
    | (simp [ndOk, va0, *]; omega)
    | (simp [ndOk, va0, *]; rintro rfl rfl rfl; rename_i h; revert h; simp [vaOk, va0])
theorem endN_step {l : List ND} {n j : Nat} (h : j < l.length) : endN (n + 1) (l.drop j) = (endN (n + parts (l.getD j nd0).op) (l.drop (j + 1))).map (· + 1) := by
  rw [List.drop_eq_getElem_cons h]
  have : l.getD j nd0 = l[j] := by simp [List.getD, h]
  rw [this]
  rfl
theorem rend_call (l : List ND) (hl : l.length ≤ 1000000) (t : Bool) (i : Int) : MCalls Tryz.prog 137 [.lst 5 (l.map ND.c) t, .int .i64 i] St.none (fun r _ => r = .int .i64 (endS l i)) := by
  refine (MCalls.body 30 [.tmp 4] Tryz.func137 rfl rfl rfl rfl ?_)
  by_cases hi : i < 0
  · repeat' (first | (with_reducible first | (refine wN fun nl hnl => ?_; revert hnl; (repeat refine wS fun _ _ => ?_); intro hnl) | refine wD (by decide +kernel) ?_ | refine wI (fun h => ?_) fun h => ?_ | refine wF (fun h => ?_) fun h => ?_ | refine wG (fun h => ?_) fun h => ?_ | refine wH (fun h => ?_) fun h => ?_ | ((first | refine mfork_bool (fun h => ?_) fun h => ?_ | refine mgfork_bool (fun h => ?_) fun h => ?_) <;> simp only [h])) | simp (maxSteps := 4000000) (disch := first | decide | assumption | omega | (simp only [wL]; omega)) only [go_sem, simprocAttr, Tryz.f137])
    simp [endS, hi]
  · obtain ⟨i, rfl⟩ : ∃ k : Nat, i = k := ⟨i.toNat, by omega⟩
    repeat' (first | (with_reducible first | (refine wN fun nl hnl => ?_; revert hnl; (repeat refine wS fun _ _ => ?_); intro hnl) | refine wD (by decide +kernel) ?_ | refine wI (fun h => ?_) fun h => ?_ | refine wF (fun h => ?_) fun h => ?_ | refine wG (fun h => ?_) fun h => ?_ | refine wH (fun h => ?_) fun h => ?_ | ((first | refine mfork_bool (fun h => ?_) fun h => ?_ | refine mgfork_bool (fun h => ?_) fun h => ?_) <;> simp only [h])) | simp (maxSteps := 4000000) (disch := first | decide | assumption | omega | (simp only [wL]; omega)) only [go_sem, simprocAttr, Tryz.f137])
    refine mloop_intro (α := Nat × Nat) (fun a => ⟨30, [(5, .int .i64 (a.2 : Int)), (0, .lst 5 (l.map ND.c) t), (1, .int .i64 (a.1 : Int))], []⟩) (fun _ => St.none)
      (fun a => i ≤ a.1 ∧ a.1 ≤ max i l.length ∧ a.2 ≤ 1 + a.1 ∧ endN 1 (l.drop i) = (endN a.2 (l.drop a.1)).map (· + (a.1 - i))) (fun a => l.length - a.1) (.of (.less ?_ (St.le_refl _)) ⟨(i, 1), rfl, rfl, ?_⟩) ?_
    · simp (maxSteps := 4000000) (disch := first | decide | assumption | omega | (simp only [wL]; omega)) only [go_sem, simprocAttr, weak_int, weak_same]
      all_goals rfl
    · simp
      omega
    · rintro ⟨j, n⟩ ⟨h1, h2, h3, h4⟩
      simp only at h1 h2 h3 h4 ⊢
      by_cases hj : j < l.length
      · rcases Nat.eq_zero_or_pos n with hn | hn
        · subst hn
          repeat' (first | (with_reducible first | (refine wN fun nl hnl => ?_; revert hnl; (repeat refine wS fun _ _ => ?_); intro hnl) | refine wD (by decide +kernel) ?_ | refine wI (fun h => ?_) fun h => ?_ | refine wF (fun h => ?_) fun h => ?_ | refine wG (fun h => ?_) fun h => ?_ | refine wH (fun h => ?_) fun h => ?_ | ((first | refine mfork_bool (fun h => ?_) fun h => ?_ | refine mgfork_bool (fun h => ?_) fun h => ?_) <;> simp only [h])) | simp (maxSteps := 4000000) (disch := first | decide | assumption | omega | (simp only [wL]; omega)) only [go_sem, simprocAttr, getD_mapd nd0, ND.c])
          simp only [endS, h4, endN, Option.map_some, Int.toNat_natCast]
          rw [if_neg hi]
          simp only [MV.int.injEq, true_and]
          omega
        · obtain ⟨m, rfl⟩ : ∃ m, n = m + 1 := ⟨n - 1, by omega⟩
          have hp := parts_cases (l.getD j nd0).op
          repeat' (first | (with_reducible refine use_pure (rparts_call _) ?_) | (with_reducible first | (refine wN fun nl hnl => ?_; revert hnl; (repeat refine wS fun _ _ => ?_); intro hnl) | refine wD (by decide +kernel) ?_ | refine wI (fun h => ?_) fun h => ?_ | refine wF (fun h => ?_) fun h => ?_ | refine wG (fun h => ?_) fun h => ?_ | refine wH (fun h => ?_) fun h => ?_ | ((first | refine mfork_bool (fun h => ?_) fun h => ?_ | refine mgfork_bool (fun h => ?_) fun h => ?_) <;> simp only [h])) | simp (maxSteps := 4000000) (disch := first | decide | assumption | omega | (simp only [wL]; omega)) only [go_sem, simprocAttr, getD_mapd nd0, ND.c])
          refine .of (.less (l1 := [(5, .int .i64 ((m + parts (l.getD j nd0).op : Nat) : Int)), (0, .lst 5 (l.map ND.c) t), (1, .int .i64 ((j + 1 : Nat) : Int))]) ?_ (St.le_refl _)) ⟨(j + 1, m + parts (l.getD j nd0).op), rfl, rfl, ⟨by simp only; omega, by simp only; omega, by simp only; omega, ?_⟩, by simp only; omega⟩
          · simp (maxSteps := 4000000) (disch := first | decide | assumption | omega | (simp only [wL]; omega)) only [go_sem, simprocAttr, weak_int, weak_same]
            all_goals omega
          · rw [h4, endN_step hj]
            simp only [Option.map_map]
            congr 1
            funext k
            simp only [Function.comp]
            omega
      · have hd : l.drop j = [] := List.drop_eq_nil_of_le (by omega)
        rw [hd] at h4
        rcases Nat.eq_zero_or_pos n with hn | hn
        · subst hn
          repeat' (first | (with_reducible first | (refine wN fun nl hnl => ?_; revert hnl; (repeat refine wS fun _ _ => ?_); intro hnl) | refine wD (by decide +kernel) ?_ | refine wI (fun h => ?_) fun h => ?_ | refine wF (fun h => ?_) fun h => ?_ | refine wG (fun h => ?_) fun h => ?_ | refine wH (fun h => ?_) fun h => ?_ | ((first | refine mfork_bool (fun h => ?_) fun h => ?_ | refine mgfork_bool (fun h => ?_) fun h => ?_) <;> simp only [h])) | simp (maxSteps := 4000000) (disch := first | decide | assumption | omega | (simp only [wL]; omega)) only [go_sem, simprocAttr, getD_mapd nd0, ND.c])
          simp only [endS, h4, endN, Option.map_some, Int.toNat_natCast]
          rw [if_neg hi]
          simp only [MV.int.injEq, true_and]
          omega
        · obtain ⟨m, rfl⟩ : ∃ m, n = m + 1 := ⟨n - 1, by omega⟩
          repeat' (first | (with_reducible first | (refine wN fun nl hnl => ?_; revert hnl; (repeat refine wS fun _ _ => ?_); intro hnl) | refine wD (by decide +kernel) ?_ | refine wI (fun h => ?_) fun h => ?_ | refine wF (fun h => ?_) fun h => ?_ | refine wG (fun h => ?_) fun h => ?_ | refine wH (fun h => ?_) fun h => ?_ | ((first | refine mfork_bool (fun h => ?_) fun h => ?_ | refine mgfork_bool (fun h => ?_) fun h => ?_) <;> simp only [h])) | simp (maxSteps := 4000000) (disch := first | decide | assumption | omega | (simp only [wL]; omega)) only [go_sem, simprocAttr, getD_mapd nd0, ND.c])
          simp only [endS, h4, endN, Option.map_none, Int.toNat_natCast]
          rw [if_neg hi]
theorem rsame_call (a b : List ND) (hl : a.length ≤ 1000000) (ta tb : Bool) : MCalls Tryz.prog 87 [.lst 5 (a.map ND.c) ta, .lst 5 (b.map ND.c) tb] St.none (fun r _ => r = .bool (decide (a = b))) := by
  refine (MCalls.body 26 [.tmp 4] Tryz.func87 rfl rfl rfl rfl ?_)
  by_cases hlen : a.length = b.length
  · repeat' (first | (with_reducible first | (refine wN fun nl hnl => ?_; revert hnl; (repeat refine wS fun _ _ => ?_); intro hnl) | refine wD (by decide +kernel) ?_ | refine wI (fun h => ?_) fun h => ?_ | refine wF (fun h => ?_) fun h => ?_ | refine wG (fun h => ?_) fun h => ?_ | refine wH (fun h => ?_) fun h => ?_ | ((first | refine mfork_bool (fun h => ?_) fun h => ?_ | refine mgfork_bool (fun h => ?_) fun h => ?_) <;> simp only [h])) | simp (maxSteps := 4000000) (disch := first | decide | assumption | omega | (simp only [wL]; omega)) only [go_sem, simprocAttr, Tryz.f87])
    refine mloop_intro (α := Nat) (fun i => ⟨26, [(5, .int .i64 (i : Int)), (0, .lst 5 (a.map ND.c) ta), (1, .lst 5 (b.map ND.c) tb)], []⟩) (fun _ => St.none)
      (fun i => i ≤ a.length ∧ a.take i = b.take i) (fun i => a.length - i) (.of (.less ?_ (St.le_refl _)) ⟨0, rfl, rfl, by simp⟩) ?_
    · simp (maxSteps := 4000000) (disch := first | decide | assumption | omega | (simp only [wL]; omega)) only [go_sem, simprocAttr, weak_int, weak_same]
      all_goals rfl
    · rintro i ⟨h1, h2⟩
      by_cases hi : i < a.length
      · repeat' (first | (with_reducible first | (refine wN fun nl hnl => ?_; revert hnl; (repeat refine wS fun _ _ => ?_); intro hnl) | refine wD (by decide +kernel) ?_ | refine wI (fun h => ?_) fun h => ?_ | refine wF (fun h => ?_) fun h => ?_ | refine wG (fun h => ?_) fun h => ?_ | refine wH (fun h => ?_) fun h => ?_ | ((first | refine mfork_bool (fun h => ?_) fun h => ?_ | refine mgfork_bool (fun h => ?_) fun h => ?_) <;> simp only [h])) | simp (maxSteps := 4000000) (disch := first | decide | assumption | omega | (simp only [wL]; omega)) only [go_sem, simprocAttr, getD_mapd nd0, ND.c])
        · have : a ≠ b := fun e => h (by rw [e]; exact ⟨rfl, rfl, rfl, rfl, rfl⟩)
          simp [this]
        · have he := nd_ext (Classical.not_not.1 h)
          refine .of (.less (l1 := [(5, .int .i64 ((i + 1 : Nat) : Int)), (0, .lst 5 (a.map ND.c) ta), (1, .lst 5 (b.map ND.c) tb)]) ?_ (St.le_refl _)) ⟨i + 1, rfl, rfl, ⟨by omega, ?_⟩, by omega⟩
          · simp (maxSteps := 4000000) (disch := first | decide | assumption | omega | (simp only [wL]; omega)) only [go_sem, simprocAttr, weak_int, weak_same]
            all_goals omega
          · rw [List.take_succ_eq_append_getElem hi, List.take_succ_eq_append_getElem (by omega), h2, ← getD_of_lt nd0 hi, ← getD_of_lt nd0 (by omega), he]
      · have : i = a.length := by omega
        subst this
        rw [List.take_length, hlen, List.take_length] at h2
        repeat' (first | (with_reducible first | (refine wN fun nl hnl => ?_; revert hnl; (repeat refine wS fun _ _ => ?_); intro hnl) | refine wD (by decide +kernel) ?_ | refine wI (fun h => ?_) fun h => ?_ | refine wF (fun h => ?_) fun h => ?_ | refine wG (fun h => ?_) fun h => ?_ | refine wH (fun h => ?_) fun h => ?_ | ((first | refine mfork_bool (fun h => ?_) fun h => ?_ | refine mgfork_bool (fun h => ?_) fun h => ?_) <;> simp only [h])) | simp (maxSteps := 4000000) (disch := first | decide | assumption | omega | (simp only [wL]; omega)) only [go_sem, simprocAttr, getD_mapd nd0, ND.c])
        simp [h2]
  · repeat' (first | (with_reducible first | (refine wN fun nl hnl => ?_; revert hnl; (repeat refine wS fun _ _ => ?_); intro hnl) | refine wD (by decide +kernel) ?_ | refine wI (fun h => ?_) fun h => ?_ | refine wF (fun h => ?_) fun h => ?_ | refine wG (fun h => ?_) fun h => ?_ | refine wH (fun h => ?_) fun h => ?_ | ((first | refine mfork_bool (fun h => ?_) fun h => ?_ | refine mgfork_bool (fun h => ?_) fun h => ?_) <;> simp only [h])) | simp (maxSteps := 4000000) (disch := first | decide | assumption | omega | (simp only [wL]; omega)) only [go_sem, simprocAttr, Tryz.f87])
    have : a ≠ b := fun e => hlen (by rw [e])
    simp [this]
end Go.Proofs.YtfbodefnblpflaaGreatDoor
end

section
/- Contracts of the document's bits, masks, and values as bytes: the conditions that the theorems name. -/
set_option linter.unusedVariables false
set_option linter.unusedSimpArgs false
namespace Go.Proofs.YtfbodefnblpflaaGreatDoor
set_option maxRecDepth 100000
/-- The document's numbers as bytes, in regions that draw their order. -/
noncomputable def numK (C : Know) : Know := fun g ms => if g = 26 then match ms with | [.int .i64 n] => some ⟨[], fun v => v = .str (bsS (numB n)), none⟩ | _ => none else C g ms
theorem numK_hit {C : Know} {n : Int} : numK C 26 [.int .i64 n] = some ⟨[], fun v => v = .str (bsS (numB n)), none⟩ := rfl
theorem numK_skip {C : Know} {g : FuncId} {ms : List MV} {F : Fact} (h : C g ms = some F) (hg : (g == 26) = false) : numK C g ms = some F := by
  have hg : g ≠ 26 := by simpa using hg
  simp [numK, hg, h]
theorem hasB_bit {s : Nat} {i : Nat} (h : i < 32) : hasB s (i : Int) = bit s i := by
  unfold hasB bit
  rw [Nat.testBit_eq_decide_div_mod_eq]
  refine decide_eq_decide.mpr ?_
  rw [Int.toNat_natCast]
  constructor
  · exact fun h => h.2.2
  · exact fun k => ⟨by omega, by omega, k⟩
theorem rbit_call (m : UInt32) (i : Nat) (h : i < 32) : MCalls Tryz.prog 130 [.int .u32 (m.toNat : Int), .int .i64 (i : Int)] St.none (fun r _ => r = .bool (bit m.toNat i)) := by
  have := rhas_call m.toNat (i : Int) m.toNat_lt
  rwa [hasB_bit h] at this
theorem rmlab_call (m : UInt32) : MCalls Tryz.prog 129 [.int .u32 (m.toNat : Int)] St.none (fun r _ => r = .bool (bit m.toNat 8)) := by
  refine (MCalls.body 5 [.tmp 2] Tryz.func129 rfl rfl rfl rfl ?_)
  have h := rbit_call m 8 (by decide)
  repeat' (first | (with_reducible first | refine up h ?_) | (with_reducible first | (refine wT ?_; refine wN fun _ hnl => ?_; revert hnl; (repeat refine wS fun _ _ => ?_); intro hnl) | refine wD (by decide +kernel) ?_ | refine wI (fun h => ?_) fun h => ?_ | refine wF (fun h => ?_) fun h => ?_ | refine wG (fun h => ?_) fun h => ?_ | refine wH (fun h => ?_) fun h => ?_ | ((first | refine mfork_bool (fun h => ?_) fun h => ?_ | refine mgfork_bool (fun h => ?_) fun h => ?_) <;> simp only [h])) | simp (maxSteps := 4000000) (disch := first | decide | assumption | omega | (simp only [wL]; omega)) only [go_sem, simprocAttr, Tryz.f129])
  all_goals rfl
theorem rmcheck_call (m : UInt32) : MCalls Tryz.prog 82 [.int .u32 (m.toNat : Int)] St.none (fun r _ => r = .bool (decide (m.toNat ≤ 511))) := by
  refine (MCalls.body 5 [.tmp 2] Tryz.func82 rfl rfl rfl rfl ?_)
  repeat' (first | (with_reducible first | (refine wT ?_; refine wN fun _ hnl => ?_; revert hnl; (repeat refine wS fun _ _ => ?_); intro hnl) | refine wD (by decide +kernel) ?_ | refine wI (fun h => ?_) fun h => ?_ | refine wF (fun h => ?_) fun h => ?_ | refine wG (fun h => ?_) fun h => ?_ | refine wH (fun h => ?_) fun h => ?_ | ((first | refine mfork_bool (fun h => ?_) fun h => ?_ | refine mgfork_bool (fun h => ?_) fun h => ?_) <;> simp only [h])) | simp (maxSteps := 4000000) (disch := first | decide | assumption | omega | (simp only [wL]; omega)) only [go_sem, simprocAttr, Tryz.f82])
  all_goals first | rfl | (refine decide_eq_decide.mpr ?_; omega)
theorem vaOk_size {v : VA} (h : vaOk v = true) : v.s.size ≤ 24 := by
  rcases (vaOk_iff v).1 h with ⟨-, h⟩ | ⟨-, -, -, h⟩ | ⟨-, -, h⟩
  · rw [h]; decide
  · rw [h]; decide
  · exact h
theorem rputval_call (v : VA) : MCalls Tryz.prog 131 [.agg v.c] St.none (fun r _ => r = .str (bsS (valB v))) := by
  refine (MCalls.body 23 [.tmp 2] Tryz.func131 rfl rfl rfl rfl ?_)
  have hc := rvcheck_call v.kd v.n v.s
  cases hok : vaOk v
  · rw [hok] at hc
    repeat' (first | (with_reducible first | refine up hc ?_) | (with_reducible first | (refine wT ?_; refine wN fun _ hnl => ?_; revert hnl; (repeat refine wS fun _ _ => ?_); intro hnl) | refine wD (by decide +kernel) ?_ | refine wI (fun h => ?_) fun h => ?_ | refine wF (fun h => ?_) fun h => ?_ | refine wG (fun h => ?_) fun h => ?_ | refine wH (fun h => ?_) fun h => ?_ | ((first | refine mfork_bool (fun h => ?_) fun h => ?_ | refine mgfork_bool (fun h => ?_) fun h => ?_) <;> simp only [h])) | simp (maxSteps := 4000000) (disch := first | decide | assumption | omega | (simp only [wL]; omega)) only [go_sem, simprocAttr, Tryz.f131])
    all_goals simp [valB, hok, bsS]
  · rw [hok] at hc
    have hsz := vaOk_size hok
    have h0 := rnum_call 0
    have h1 := rnum_call 1
    have h2 := rnum_call 2
    have hn := rnum_call v.n
    have hs := rstr_call (bl v.s) (by have : (bl v.s).length = v.s.size := rfl; omega)
    rw [bsS_of] at hs
    have hl := numB_len (bl v.s).length
    have hsl : (strB (bl v.s)).length ≤ 30 := by
      have : (bl v.s).length = v.s.size := rfl
      simp only [strB, List.length_append]; omega
    have hk : v.kd = 0 ∨ v.kd = 1 ∨ v.kd = 2 := by
      rcases (vaOk_iff v).1 hok with ⟨h, -⟩ | ⟨h, -⟩ | ⟨h, -⟩ <;> omega
    have hl1 := numB_len 1
    have hl2 := numB_len 2
    have hln := numB_len v.n
    obtain ⟨C, hN, hS⟩ : ∃ C : Know, (∀ n, C 26 [.int .i64 n] = some ⟨[], fun v => v = .str (bsS (numB n)), none⟩) ∧ C 168 [.str v.s] = some ⟨[], fun w => w = .str (bsS (strB (bl v.s))), none⟩ :=
      ⟨numK (kn [(168, [.str v.s], ⟨[], fun w => w = .str (bsS (strB (bl v.s))), none⟩)]), fun _ => numK_hit, numK_skip kn_hit rfl⟩
    repeat' (first | (with_reducible first | refine up hc ?_ | refine up h0 ?_) | (with_reducible first | (refine wT ?_; refine wN fun _ hnl => ?_; revert hnl; (repeat refine wS fun _ _ => ?_); intro hnl) | refine wD (by decide +kernel) ?_ | refine wI (fun h => ?_) fun h => ?_ | refine wF (fun h => ?_) fun h => ?_ | refine wG (fun h => ?_) fun h => ?_ | refine wH (fun h => ?_) fun h => ?_ | ((first | refine mfork_bool (fun h => ?_) fun h => ?_ | refine mgfork_bool (fun h => ?_) fun h => ?_) <;> simp only [h])) | simp (maxSteps := 4000000) (disch := first | decide | assumption | omega | (simp only [wL]; omega)) only [go_sem, simprocAttr, Tryz.f131, bsS_append, bsS_size])
    all_goals try (refine mdraw_know mixed (by decide +kernel) C ?_)
    all_goals try (repeat' (first | (with_reducible refine know_pure (hN _) (rnum_call _) ?_) | (with_reducible refine know_pure hS hs ?_) | (with_reducible first | (refine wT ?_; refine wN fun _ hnl => ?_; revert hnl; (repeat refine wS fun _ _ => ?_); intro hnl) | refine wD (by decide +kernel) ?_ | refine wI (fun h => ?_) fun h => ?_ | refine wF (fun h => ?_) fun h => ?_ | refine wG (fun h => ?_) fun h => ?_ | refine wH (fun h => ?_) fun h => ?_ | ((first | refine mfork_bool (fun h => ?_) fun h => ?_ | refine mgfork_bool (fun h => ?_) fun h => ?_) <;> simp only [h])) | simp (maxSteps := 4000000) (disch := first | decide | assumption | omega | (simp only [wL]; omega)) only [go_sem, simprocAttr, bsS_append, bsS_size]))
    all_goals simp only [valB, hok, if_true, MV.str.injEq]
    all_goals first
      | (rw [show v.kd = 1 by omega]; rfl)
      | (rw [show v.kd = 2 by omega]; rfl)
      | (rw [show v.kd = 0 by omega]; rfl)
end Go.Proofs.YtfbodefnblpflaaGreatDoor
end

section
/- Loops over functions (1): what the one side may count on while the other one works; the statement's rule. -/
set_option linter.unusedVariables false
set_option linter.unusedSimpArgs false
namespace Go.Proofs.YtfbodefnblpflaaGreatDoor
/-- The other side: a memory, the blocks that it writes, and the cells that it holds fixed. -/
structure YS where
  w : World
  wr : Nat → Prop
  sn : Addr → Option Value
/-- What the other side holds is there. -/
structure Agree (S : YS) (w : World) : Prop where
  same : ∀ k, S.wr k → w.heap[k]? = S.w.heap[k]?
  lt : ∀ k, S.wr k → k < S.w.heap.size
  nomark : ∀ k, S.wr k → ∀ x, S.w.heap[k]? ≠ some (Obj.deferred x)
  sn : ∀ a v, S.sn a = some v → w.cell? a = some v
  size : S.w.heap.size ≤ w.heap.size
  os : w.os = S.w.os
  tape : w.tape = S.w.tape
  output : w.output = S.w.output
  drawn : S.w.drawn ≤ w.drawn
structure Apt (Φ : Phi) (σ : St) (S : YS) (w : World) : Prop where
  agree : Agree S w
  own : ∀ k, S.wr k → ¬ Owned Φ σ k
  snown : ∀ a v, S.sn a = some v → ¬ Owned Φ σ a.block
  snap : ∀ a v, Φ.snap a = some v → ¬ S.wr a.block
theorem Apt.step {Φ Φ' : Phi} {σ σ' : St} {S : YS} {w w' : World} (h : Apt Φ σ S w) (hs : Step Φ σ w Φ' σ' w') : Apt Φ' σ' S w' := by
  have hlt : ∀ k, S.wr k → k < w.heap.size := fun k hk => Nat.lt_of_lt_of_le (h.agree.lt k hk) h.agree.size
  have hsl : ∀ a v, S.sn a = some v → a.block < w.heap.size := fun a v q => World.block_lt_of_cell? w a (h.agree.sn a v q)
  refine ⟨⟨fun k hk => (hs.block k (hlt k hk) (h.own k hk)).trans (h.agree.same k hk), h.agree.lt, h.agree.nomark, fun a v q => ?_, Nat.le_trans h.agree.size hs.size, hs.os.trans h.agree.os, hs.tape.trans h.agree.tape, hs.output.trans h.agree.output, Nat.le_trans h.agree.drawn hs.drawn⟩, fun k hk ho => ?_, fun a v q ho => ?_, fun a v hv hk => ?_⟩
  · rw [World.cell?_heap (hs.block _ (hsl a v q) (h.snown a v q))]
    exact h.agree.sn a v q
  · rcases hs.ownd k ho with q | q
    · exact h.own k hk q
    · have := hlt k hk; omega
  · rcases hs.ownd _ ho with p | p
    · exact h.snown a v q p
    · have := hsl a v q; omega
  · rcases hs.snapn a v hv with q | q | q
    · exact h.snap a v q hk
    · have := hlt _ hk; omega
    · exact h.own _ hk q
/-- A step in which the other side may have worked, too. -/
structure StepS (Φ : Phi) (σ : St) (w : World) (S : YS) (Φ' : Phi) (σ' : St) (w' : World) (S' : YS) : Prop where
  le : Φ.le Φ'
  os : w'.os = w.os
  tape : w'.tape = w.tape
  output : w'.output = w.output
  drawn : w.drawn ≤ w'.drawn
  size : w.heap.size ≤ w'.heap.size
  block : ∀ k, k < w.heap.size → ¬ Owned Φ σ k → ¬ S.wr k → w'.heap[k]? = w.heap[k]?
  snapn : ∀ a v, Φ'.snap a = some v → Φ.snap a = some v ∨ w.heap.size ≤ a.block ∨ Owned Φ σ a.block
  ownd : ∀ R, Owned Φ' σ' R → Owned Φ σ R ∨ w.heap.size ≤ R
  wr : ∀ k, S'.wr k → S.wr k ∨ w.heap.size ≤ k
  sn : ∀ a v, S'.sn a = some v → S.sn a = some v ∨ S.wr a.block ∨ w.heap.size ≤ a.block ∨ Φ.snap a = some v ∨ Owned Φ σ a.block
theorem StepS.of {Φ Φ' : Phi} {σ σ' : St} {w w' : World} (S : YS) (hs : Step Φ σ w Φ' σ' w') : StepS Φ σ w S Φ' σ' w' S :=
  ⟨hs.le, hs.os, hs.tape, hs.output, hs.drawn, hs.size, fun k hk hn _ => hs.block k hk hn, hs.snapn, hs.ownd, fun k hk => .inl hk, fun _ _ q => .inl q⟩
theorem StepS.refl (Φ : Phi) (σ : St) (w : World) (S : YS) : StepS Φ σ w S Φ σ w S := .of S (.refl Φ σ w)
theorem StepS.trans {Φ Φ1 Φ2 : Phi} {σ σ1 σ2 : St} {w w1 w2 : World} {S S1 S2 : YS} (h : StepS Φ σ w S Φ1 σ1 w1 S1) (k : StepS Φ1 σ1 w1 S1 Φ2 σ2 w2 S2) : StepS Φ σ w S Φ2 σ2 w2 S2 where
  le := h.le.trans k.le
  os := k.os.trans h.os
  tape := k.tape.trans h.tape
  output := k.output.trans h.output
  drawn := Nat.le_trans h.drawn k.drawn
  size := Nat.le_trans h.size k.size
  block := fun i hi hn hw => (k.block i (Nat.lt_of_lt_of_le hi h.size) (fun ho => (h.ownd i ho).elim hn (fun q => by omega)) (fun ho => (h.wr i ho).elim hw (fun q => by omega))).trans (h.block i hi hn hw)
  snapn := fun a v hv => by
    rcases k.snapn a v hv with q | q | q
    · exact h.snapn a v q
    · exact .inr (.inl (Nat.le_trans h.size q))
    · rcases h.ownd _ q with q | q
      · exact .inr (.inr q)
      · exact .inr (.inl q)
  ownd := fun R hR => by
    rcases k.ownd R hR with q | q
    · exact h.ownd R q
    · exact .inr (Nat.le_trans h.size q)
  wr := fun i hi => by
    rcases k.wr i hi with q | q
    · exact h.wr i q
    · exact .inr (Nat.le_trans h.size q)
  sn := fun a v hv => by
    rcases k.sn a v hv with q | q | q | q | q
    · exact h.sn a v q
    · rcases h.wr _ q with q | q
      · exact .inr (.inl q)
      · exact .inr (.inr (.inl q))
    · exact .inr (.inr (.inl (Nat.le_trans h.size q)))
    · rcases h.snapn a v q with q | q | q
      · exact .inr (.inr (.inr (.inl q)))
      · exact .inr (.inr (.inl q))
      · exact .inr (.inr (.inr (.inr q)))
    · rcases h.ownd _ q with q | q
      · exact .inr (.inr (.inr (.inr q)))
      · exact .inr (.inr (.inl q))
/-- What a call of yield does, of the other side's states: Y i where i elements were taken, and Yx where it wants no more. -/
def YSpec (P : Program) (l : Nat) (xs : List (List MV)) (Y : Nat → YS → Prop) (Yx : YS → Prop) (Φ0 : Phi) (σ0 : St) (n0 : Nat) : Prop :=
  ∀ (i : Nat) (x : List MV) (S : YS) (w : World) (Ψ : Phi) (vs : Array Value), xs[i]? = some x → Y i S → Agree S w → n0 ≤ w.heap.size → (∀ m, Ψ.obj m = none) →
    (∀ a v, Ψ.snap a = some v → w.cell? a = some v ∧ ¬ S.wr a.block ∧ (Φ0.snap a = some v ∨ n0 ≤ a.block ∨ Owned Φ0 σ0 a.block)) → Rels Ψ vs x →
    YieldAt Fence.wide 0 P l vs w fun e w' => ∃ b S', e = .returned (.bool b) ∧ S'.w = w' ∧ Agree S' w' ∧ w'.os = w.os ∧ w'.tape = w.tape ∧ w'.output = w.output ∧ w.drawn ≤ w'.drawn ∧ w.heap.size ≤ w'.heap.size ∧
      (∀ k, k < w.heap.size → ¬ S.wr k → w'.heap[k]? = w.heap[k]?) ∧ (∀ k, S'.wr k → S.wr k ∨ w.heap.size ≤ k) ∧
      (∀ a v, S'.sn a = some v → S.sn a = some v ∨ S.wr a.block ∨ w.heap.size ≤ a.block ∨ Ψ.snap a = some v) ∧ (if b = true then Y (i + 1) S' else Yx S')
/-- A function that hands on these elements, one by one, until it is told to stop. -/
def MSeq (P : Program) (g : FuncId) (ns : List MV) (σi : St) (xs : List (List MV)) : Prop :=
  Enters P g ∧ ∀ (l : Nat) (Y : Nat → YS → Prop) (Yx : YS → Prop) (Φ : Phi) (w : World) (S : YS) (vs : Array Value), YSpec P l xs Y Yx Φ σi w.heap.size → Inv Φ w σi → Apt Φ σi S w → Y 0 S → Rels Φ vs ns →
    Calls P g (#[.func (.yield l) #[] #[]] ++ vs) w fun e w' => ∃ v Φ' σ' S', e = .returned v ∧ Inv Φ' w' σ' ∧ Apt Φ' σ' S' w' ∧ StepS Φ σi w S Φ' σ' w' S' ∧ (Y xs.length S' ∨ Yx S')
/-! ### The rounds -/
def mputs (f : FR) : List Tmp → List MV → FR
  | p :: ps, x :: xs => mputs (mput f (some p) x) ps xs
  | _, _ => f
theorem mputs_d (ps : List Tmp) : ∀ (f : FR) (xs : List MV), (mputs f ps xs).d = f.d := by
  induction ps with
  | nil => intro f xs; rfl
  | cons p ps ih =>
    intro f xs
    cases xs with
    | nil => rfl
    | cons x xs => rw [mputs, ih, mput_d]
theorem frel_puts {Φ : Phi} : ∀ (ps : List Tmp) (xs : List MV) (vs : List Value) (tmps : Array Value) (f : FR), FRel Φ tmps f → vs.length = xs.length → (∀ (i : Nat) m, xs[i]? = some m → Rel Φ (vs.getD i undef) m) →
    FRel Φ ((ps.zip vs).foldl (fun t (p : Tmp × Value) => t.setIfInBounds p.1 p.2) tmps) (mputs f ps xs)
  | [], _, _, _, _, h, _, _ => by simpa [mputs] using h
  | _ :: _, [], [], _, _, h, _, _ => by simpa [mputs] using h
  | p :: ps, x :: xs, v :: vs, tmps, f, h, hl, hr => by
    simp only [List.zip_cons_cons, List.foldl_cons, mputs]
    refine frel_puts ps xs vs _ _ ?_ (by simpa using hl) (fun i m hm => by have := hr (i + 1) m (by simpa using hm); simpa using this)
    have := rels_put (a := { tmps := tmps, defers := [] }) h (some p) (hr 0 x rfl)
    simpa [Act.put] using this
  | _ :: _, [], _ :: _, _, _, _, hl, _ => by simp at hl
  | _ :: _, _ :: _, [], _, _, _, hl, _ => by simp at hl
theorem foldl_zip {β : Type} (ps : Array Tmp) (vs : Array Value) (g : β → Tmp × Value → β) (b : β) : (ps.zip vs).foldl g b = (ps.toList.zip vs.toList).foldl g b := by
  rw [← Array.foldl_toList, Array.toList_zip]
end Go.Proofs.YtfbodefnblpflaaGreatDoor
end

section
/- Loops over functions (2): the statement's rule. -/
set_option linter.unusedVariables false
set_option linter.unusedSimpArgs false
namespace Go.Proofs.YtfbodefnblpflaaGreatDoor
theorem Inv.grow {Φ : Phi} {w w' : World} {σ : St} (hi : Inv Φ w σ) (h1 : w'.os = w.os) (h2 : w'.tape = w.tape) (h3 : w'.output = w.output) (h4 : w.drawn ≤ w'.drawn) (h5 : w.heap.size ≤ w'.heap.size) (hb : ∀ k, k < w.heap.size → w'.heap[k]? = w.heap[k]?) :
    Inv Φ w' σ ∧ Step Φ σ w Φ σ w' :=
  ⟨⟨fun l o h => (hi.own l o h).mono (.refl Φ) fun p R hp hR => by
      obtain ⟨p', hp', hlt⟩ := (hi.own l o h).place
      rw [hp] at hp'; cases hp'
      exact hb R (hlt R hR), hi.inj, fun a v h => by
      rw [World.cell?_heap (hb _ (World.block_lt_of_cell? w a (hi.snap a v h)))]
      exact hi.snap a v h, hi.apart, hi.fresh⟩,
   ⟨.refl Φ, h1, h2, h3, h4, h5, fun k hk _ => hb k hk, fun _ _ h => .inl h, fun l o h => .inl ⟨o, h⟩, fun _ h => .inl h⟩⟩
/-- What a step says of names and snapshots alone. -/
structure CStep (Φ0 : Phi) (σ0 : St) (n0 : Nat) (Φ : Phi) (σ : St) : Prop where
  le : Φ0.le Φ
  snapn : ∀ a v, Φ.snap a = some v → Φ0.snap a = some v ∨ n0 ≤ a.block ∨ Owned Φ0 σ0 a.block
  locs : ∀ l o, σ l = some o → (∃ o', σ0 l = some o') ∨ Φ0.obj l = none
  ownd : ∀ R, Owned Φ σ R → Owned Φ0 σ0 R ∨ n0 ≤ R
theorem CStep.of {Φ Φ' : Phi} {σ σ' : St} {w w' : World} (h : Step Φ σ w Φ' σ' w') : CStep Φ σ w.heap.size Φ' σ' := ⟨h.le, h.snapn, h.locs, h.ownd⟩
theorem CStep.step {Φ0 Φ Φ' : Phi} {σ0 σ σ' : St} {n0 : Nat} {w w' : World} (h : CStep Φ0 σ0 n0 Φ σ) (hn : n0 ≤ w.heap.size) (k : Step Φ σ w Φ' σ' w') : CStep Φ0 σ0 n0 Φ' σ' where
  le := h.le.trans k.le
  snapn := fun a v hv => by
    rcases k.snapn a v hv with q | q | q
    · exact h.snapn a v q
    · exact .inr (.inl (Nat.le_trans hn q))
    · rcases h.ownd _ q with q | q
      · exact .inr (.inr q)
      · exact .inr (.inl q)
  locs := fun l o hl => by
    rcases k.locs l o hl with ⟨o', q⟩ | q
    · exact h.locs l o' q
    · right
      cases hl : Φ0.obj l with
      | none => rfl
      | some p => have := h.le.obj l p hl; simp [this] at q
  ownd := fun R hR => by
    rcases k.ownd R hR with q | q
    · exact h.ownd R q
    · exact .inr (Nat.le_trans hn q)
/-- The loop's own side, between two rounds. -/
structure CSt (Φ0 : Phi) (σ0 : St) (n0 : Nat) (tmps : Array Value) (fc : FR) (l : Nat) (st : Loop) (σ : St) (S : YS) (Φ : Phi) : Prop where
  inv : Inv Φ S.w σ
  frame : FRel Φ tmps fc
  step : CStep Φ0 σ0 n0 Φ σ
  wr : ∀ k, S.wr k ↔ (Owned Φ σ k ∨ k = l)
  sn : ∀ a, S.sn a = Φ.snap a
  lrec : S.w.heap[l]? = some (.loop st)
  size : n0 ≤ S.w.heap.size
  base : Φ.base ≤ S.w.heap.size
theorem Inv.loopNot {Φ : Phi} {w : World} {σ : St} (hi : Inv Φ w σ) {l : Nat} {st : Loop} (h : w.heap[l]? = some (.loop st)) : ¬ Owned Φ σ l :=
  hi.notOwned (fun c t fz e => by rw [h] at e; cases e) (fun c k e => by rw [h] at e; cases e)
theorem CSt.agree {Φ0 Φ : Phi} {σ0 σ : St} {n0 : Nat} {tmps : Array Value} {fc : FR} {l : Nat} {st : Loop} {S : YS} (h : CSt Φ0 σ0 n0 tmps fc l st σ S Φ) : Agree S S.w :=
  ⟨fun _ _ => rfl, fun k hk => by
    rcases (h.wr k).1 hk with q | rfl
    · obtain ⟨l', o, p, h1, h2, h3⟩ := q
      obtain ⟨p', e, hlt⟩ := (h.inv.own l' o h1).place
      rw [h2] at e; cases e
      exact hlt k h3
    · exact (Array.getElem?_eq_some_iff.1 h.lrec).1, (fun k hk x e => by
    rcases (h.wr k).1 hk with q | rfl
    · exact h.inv.mark e q
    · rw [h.lrec] at e; cases e), fun a v q => h.inv.snap a v (by rw [← h.sn a]; exact q), Nat.le_refl _, rfl, rfl, rfl, Nat.le_refl _⟩
/-- What the loop's side holds is there still, where the other side has worked; and more may be held fixed. -/
theorem CSt.at {Φ0 Φ : Phi} {σ0 σ : St} {n0 : Nat} {tmps : Array Value} {fc : FR} {l : Nat} {st : Loop} {S : YS} (h : CSt Φ0 σ0 n0 tmps fc l st σ S Φ) {w : World} (ha : Agree S w) {Ψ : Phi} (ho : ∀ m, Ψ.obj m = none)
    (hs : ∀ a v, Ψ.snap a = some v → w.cell? a = some v ∧ ¬ S.wr a.block ∧ (Φ0.snap a = some v ∨ n0 ≤ a.block ∨ Owned Φ0 σ0 a.block)) :
    ∃ Φ', Inv Φ' w σ ∧ FRel Φ' tmps fc ∧ CStep Φ0 σ0 n0 Φ' σ ∧ (∀ k, Owned Φ' σ k ↔ Owned Φ σ k) ∧ (∀ a v, Φ'.snap a = some v → S.sn a = some v ∨ Ψ.snap a = some v) ∧ (∀ v m, Rel Ψ v m → Rel Φ' v m) ∧ w.heap[l]? = some (.loop st) ∧ Φ'.base ≤ w.heap.size := by
  obtain ⟨Φ', hΦ⟩ : ∃ Φ' : Phi, Φ' = { Φ with snap := fun a => match Φ.snap a with | some v => some v | none => Ψ.snap a } := ⟨_, rfl⟩
  have hle : Φ.le Φ' := by subst hΦ; exact ⟨fun a v q => by simp [q], fun _ _ q => q, rfl⟩
  have hobj : Φ'.obj = Φ.obj := by subst hΦ; rfl
  have hb : Φ'.base = Φ.base := by subst hΦ; rfl
  have hsn : ∀ a v, Φ'.snap a = some v → Φ.snap a = some v ∨ Ψ.snap a = some v := fun a v q => by
    subst hΦ
    simp only at q
    cases e : Φ.snap a with
    | none => rw [e] at q; exact .inr q
    | some u => rw [e] at q; exact .inl q
  have hwr : ∀ k, Owned Φ σ k → w.heap[k]? = S.w.heap[k]? := fun k hk => ha.same k ((h.wr k).2 (.inl hk))
  have hown : ∀ k, Owned Φ' σ k ↔ Owned Φ σ k := fun k => by unfold Owned; rw [hobj]
  refine ⟨Φ', ⟨fun l' o hl => (h.inv.own l' o hl).mono hle fun p R h1 h2 => hwr R ⟨l', o, p, hl, h1, h2⟩, fun a b o o' p p' R h1 h2 h3 h4 => ?_, fun a v q => ?_, fun l' o p R a v h1 h2 h3 q => ?_, ?_⟩, h.frame.mono hle, ⟨h.step.le.trans hle, fun a v q => ?_, h.step.locs, fun R hR => h.step.ownd R ((hown R).1 hR)⟩, hown, fun a v q => ?_, fun v m r => ?_, ?_, ?_⟩
  · rw [hobj] at h3 h4; exact h.inv.inj a b o o' p p' R h1 h2 h3 h4
  · rcases hsn a v q with q | q
    · exact ha.sn a v (by rw [h.sn a]; exact q)
    · exact (hs a v q).1
  · rw [hobj] at h2
    rcases hsn a v q with q | q
    · exact h.inv.apart l' o p R a v h1 h2 h3 q
    · intro e
      exact (hs a v q).2.1 ((h.wr _).2 (.inl ⟨l', o, p, h1, h2, e ▸ h3⟩))
  · obtain ⟨n, hn⟩ := h.inv.fresh.1
    exact ⟨⟨n, fun k hk => by rw [hobj]; exact hn k hk⟩, fun g i v q => hle.snap _ _ (h.inv.fresh.2 g i v q)⟩
  · rcases hsn a v q with q | q
    · exact h.step.snapn a v q
    · exact (hs a v q).2.2
  · rcases hsn a v q with q | q
    · exact .inl (by rw [h.sn a]; exact q)
    · exact .inr q
  · refine r.mono2 (fun a u q => ?_) (fun l' p q => by rw [ho l'] at q; cases q)
    have h1 := (hs a u q).1
    subst hΦ
    simp only
    cases e : Φ.snap a with
    | none => exact q
    | some u' =>
      have h2 := ha.sn a u' (by rw [h.sn a]; exact e)
      rw [h1] at h2
      simpa using h2.symm
  · rw [ha.same l ((h.wr l).2 (.inr rfl))]; exact h.lrec
  · rw [hb]; exact Nat.le_trans h.base ha.size
def onlyN (K : FR → St → Prop) : MQ
  | .normal, f, σ => K f σ
  | _, _, _ => False
/-- How a round may be left. -/
def roundQ (Q : MQ) (fc : FR) (nxt : St → Prop) : MQ
  | .normal, f, σ => Gh f σ fun _ σ1 => nxt σ1
  | .ret, f, σ => Gh f σ fun _ σ1 => Q .ret fc σ1
  | .exit id, f, σ => Gh f σ fun _ σ1 => Q (.exit id) fc σ1
  | _, _, _ => False
/-- One round. -/
theorem round_at {P : Program} {Φ0 : Phi} {σ0 : St} {n0 : Nat} {tmps : Array Value} {fc : FR} {l : Nat} {fn : FuncId} {ps : Array Tmp} {assign body : Code} {Q : MQ} {nxt : St → Prop} {D : Nat} {σ : St} {S : YS} {Φ : Phi} {x : List MV} {w : World} {Ψ : Phi} {vs : Array Value}
    (rec : LoopState → Option Code → Loop) (hrec : rec = fun st pe => { state := st, pending := pe, fn, tmps, params := ps, assign, body, defers := D })
    (nda : noDefer assign = true) (ndb : noDefer body = true) (hx : x.length = ps.size)
    (hr : mwp P assign (mputs ⟨fc.n, fc.l, []⟩ ps.toList x) σ (onlyN fun f1 σ1 => mwp P body f1 σ1 (roundQ Q fc nxt)))
    (h : CSt Φ0 σ0 n0 tmps fc l (rec .ready none) σ S Φ) (ha : Agree S w) (hn0 : n0 ≤ w.heap.size) (ho : ∀ m, Ψ.obj m = none)
    (hs : ∀ a v, Ψ.snap a = some v → w.cell? a = some v ∧ ¬ S.wr a.block ∧ (Φ0.snap a = some v ∨ n0 ≤ a.block ∨ Owned Φ0 σ0 a.block)) (hv : Rels Ψ vs x) :
    YieldAt Fence.wide 0 P l vs w fun e w' => ∃ b S', e = .returned (.bool b) ∧ S'.w = w' ∧ Agree S' w' ∧ w'.os = w.os ∧ w'.tape = w.tape ∧ w'.output = w.output ∧ w.drawn ≤ w'.drawn ∧ w.heap.size ≤ w'.heap.size ∧
      (∀ k, k < w.heap.size → ¬ S.wr k → w'.heap[k]? = w.heap[k]?) ∧ (∀ k, S'.wr k → S.wr k ∨ w.heap.size ≤ k) ∧
      (∀ a v, S'.sn a = some v → S.sn a = some v ∨ S.wr a.block ∨ w.heap.size ≤ a.block ∨ Ψ.snap a = some v) ∧
      (if b = true then ∃ σ1 Φ1, nxt σ1 ∧ CSt Φ0 σ0 n0 tmps fc l (rec .ready none) σ1 S' Φ1 else ∃ c σ1 Φ1, ((c = .ret ∧ Q .ret fc σ1) ∨ ∃ id, c = .exit id ∧ Q (.exit id) fc σ1) ∧ CSt Φ0 σ0 n0 tmps fc l (rec .done (some c)) σ1 S' Φ1) := by
  obtain ⟨Φc, i1, fr1, c1, o1, s1, r1, l1, b1⟩ := h.at ha ho hs
  have hl : l < w.heap.size := (Array.getElem?_eq_some_iff.1 l1).1
  have hwl : S.wr l := (h.wr l).2 (.inr rfl)
  have hy := run_yield (P := P) (args := vs) l1 (by rw [hrec]; exact hv.1.trans hx)
  rw [hrec] at hy
  refine ⟨fn, _, assign, body, hy, roundIn_of_wpIn trivial ?_⟩
  have hfr : FRel Φc ((ps.zip vs).foldl (fun t (p : Tmp × Value) => t.setIfInBounds p.1 p.2) tmps) (mputs ⟨fc.n, fc.l, []⟩ ps.toList x) := by
    rw [foldl_zip]
    refine frel_puts ps.toList x vs.toList tmps ⟨fc.n, fc.l, []⟩ fr1 (by simpa using hv.1) fun i m hm => ?_
    have := r1 _ _ (hv.2 i m hm)
    simpa [Array.getD_eq_getD_getElem?, List.getD_eq_getElem?_getD] using this
  refine wpIn_mono (hr (Fence.wide.inRound l) (.inr ⟨l, rfl, nda⟩) Φc w { tmps := _, defers := [] } i1 hfr (by rw [mputs_d]; exact ⟨rfl, b1⟩)) ?_
  rintro e a₁ w₁ ⟨f2, σ2, Φ2, d2, fr2, i2, st2, q⟩
  cases e with
  | normal =>
    have hnl : ¬ Owned Φc σ l := i1.loopNot l1
    have hl2 : w₁.heap[l]? = some (.loop (rec .ready none)) := (st2.block l hl hnl).trans l1
    refine ⟨_, run_beginRound hl2 (by rw [hrec]), ?_⟩
    obtain ⟨w₂, hw2⟩ : ∃ w₂, w₁.putObj l (.loop { rec .ready none with state := .busy }) = w₂ := ⟨_, rfl⟩
    rw [hw2]
    have i2' : Inv Φ2 w₂ σ2 := by rw [← hw2]; exact i2.putObj _ hl2 (fun _ _ _ e => by cases e) (fun _ _ e => by cases e)
    have sz2 : w₂.heap.size = w₁.heap.size := by rw [← hw2, World.putObj_size]
    have ll2 : w₂.heap[l]? = some (.loop { rec .ready none with state := .busy }) := by rw [← hw2]; exact World.putObj_heap_same (Array.getElem?_eq_some_iff.1 hl2).1
    have d2' : DRel Φ2 w₂ a₁.defers f2.d := d2.mono (.refl _) (by omega) fun D' hD => by
      rw [← hw2, World.putObj_heap_other]
      · exact hD
      · rintro rfl; rw [hl2] at hD; cases hD
    have q : mwp P body f2 σ2 (roundQ Q fc nxt) := q
    refine wpIn_mono (q (Fence.wide.inRound l) (.inr ⟨l, rfl, ndb⟩) Φ2 w₂ a₁ i2' fr2 d2') ?_
    rintro e a₃ w₃ ⟨f3, σ3, Φ3, d3, fr3, i3, st3, q3⟩
    have hnl2 : ¬ Owned Φ2 σ2 l := i2'.loopNot ll2
    have hl3 : w₃.heap[l]? = some (.loop { rec .ready none with state := .busy }) := (st3.block l (Array.getElem?_eq_some_iff.1 ll2).1 hnl2).trans ll2
    -- what a round comes to, whichever way it is left
    have fin : ∀ (jump : Option Code) (st : Loop) (σ4 : St) (K : FR → St → Prop), st = rec (if jump.isNone then .ready else .done) jump → Gh f3 σ3 K →
        ∃ σ4 f4 Φ4, K f4 σ4 ∧ (Instr.endRound l jump).run P w₃ = .ok (.bool jump.isNone) (w₃.putObj l (.loop st)) ∧
          (∃ S' : YS, S'.w = w₃.putObj l (.loop st) ∧ Agree S' (w₃.putObj l (.loop st)) ∧ (w₃.putObj l (.loop st)).os = w.os ∧ (w₃.putObj l (.loop st)).tape = w.tape ∧ (w₃.putObj l (.loop st)).output = w.output ∧ w.drawn ≤ (w₃.putObj l (.loop st)).drawn ∧ w.heap.size ≤ (w₃.putObj l (.loop st)).heap.size ∧
            (∀ k, k < w.heap.size → ¬ S.wr k → (w₃.putObj l (.loop st)).heap[k]? = w.heap[k]?) ∧ (∀ k, S'.wr k → S.wr k ∨ w.heap.size ≤ k) ∧
            (∀ a v, S'.sn a = some v → S.sn a = some v ∨ S.wr a.block ∨ w.heap.size ≤ a.block ∨ Ψ.snap a = some v) ∧ CSt Φ0 σ0 n0 tmps fc l st σ4 S' Φ4) := by
      intro jump st _ K hst hg
      obtain ⟨f4, σ4, Φ4, -, k4, i4, fr4, st4⟩ := hg Φ3 w₃ a₃.tmps i3 fr3
      have hend := run_endRound (P := P) jump hl3
      have hst' : ({ ({ rec .ready none with state := .busy } : Loop) with state := if jump.isNone then .ready else .done, pending := jump } : Loop) = st := by rw [hst, hrec]
      rw [hst'] at hend
      refine ⟨σ4, f4, Φ4, k4, hend, ?_⟩
      obtain ⟨w₄, hw4⟩ : ∃ w₄, w₃.putObj l (.loop st) = w₄ := ⟨_, rfl⟩
      rw [hw4]
      have sz4 : w₄.heap.size = w₃.heap.size := by rw [← hw4, World.putObj_size]
      have i4' : Inv Φ4 w₄ σ4 := by rw [← hw4]; exact i4.putObj _ hl3 (fun _ _ _ e => by cases e) (fun _ _ e => by cases e)
      have cs : CStep Φ0 σ0 n0 Φ4 σ4 := ((c1.step hn0 st2).step (w := w₂) (by have := st2.size; omega) st3).step (w := w₃) (by have := st2.size; have := st3.size; omega) st4
      have hsz : w.heap.size ≤ w₃.heap.size := by have := st2.size; have := st3.size; omega
      have oth : ∀ k, k ≠ l → w₄.heap[k]? = w₃.heap[k]? := fun k hk => by rw [← hw4]; exact World.putObj_heap_other hk
      have oth2 : ∀ k, k ≠ l → w₂.heap[k]? = w₁.heap[k]? := fun k hk => by rw [← hw2]; exact World.putObj_heap_other hk
      have ow : ∀ k, Owned Φ4 σ4 k → S.wr k ∨ w.heap.size ≤ k := fun k hk => by
        rcases st4.ownd k hk with q | q
        · rcases st3.ownd k q with q | q
          · rcases st2.ownd k q with q | q
            · exact .inl ((h.wr k).2 (.inl ((o1 k).1 q)))
            · exact .inr q
          · have := st2.size; exact .inr (by omega)
        · exact .inr (by omega)
      have hcst : CSt Φ0 σ0 n0 tmps fc l st σ4 ⟨w₄, fun k => Owned Φ4 σ4 k ∨ k = l, Φ4.snap⟩ Φ4 :=
        ⟨i4', fr1.mono ((st2.le.trans st3.le).trans st4.le), cs, fun _ => Iff.rfl, fun _ => rfl, by simp only; rw [← hw4]; exact World.putObj_heap_same (Array.getElem?_eq_some_iff.1 hl3).1, by simp only; omega, by
          simp only
          rw [st4.le.base, st3.le.base, st2.le.base]; omega⟩
      refine ⟨⟨w₄, fun k => Owned Φ4 σ4 k ∨ k = l, Φ4.snap⟩, rfl, hcst.agree, ?_, ?_, ?_, ?_, by omega, fun k hk hw => ?_, fun k hk => ?_, fun a v hv => ?_, hcst⟩
      · have e1 : w₄.os = w₃.os := by rw [← hw4]; rfl
        have e2 : w₂.os = w₁.os := by rw [← hw2]; rfl
        rw [e1, st3.os, e2, st2.os]
      · have e1 : w₄.tape = w₃.tape := by rw [← hw4]; rfl
        have e2 : w₂.tape = w₁.tape := by rw [← hw2]; rfl
        rw [e1, st3.tape, e2, st2.tape]
      · have e1 : w₄.output = w₃.output := by rw [← hw4]; rfl
        have e2 : w₂.output = w₁.output := by rw [← hw2]; rfl
        rw [e1, st3.output, e2, st2.output]
      · have e1 : w₄.drawn = w₃.drawn := by rw [← hw4]; rfl
        have e2 : w₂.drawn = w₁.drawn := by rw [← hw2]; rfl
        have := st2.drawn
        have := st3.drawn
        omega
      · have hkl : k ≠ l := fun e => hw (e ▸ hwl)
        have hno : ¬ Owned Φc σ k := fun q => hw ((h.wr k).2 (.inl ((o1 k).1 q)))
        have hno2 : ¬ Owned Φ2 σ2 k := fun q => (st2.ownd k q).elim hno (fun q => by omega)
        rw [oth k hkl, st3.block k (by have := st2.size; omega) hno2, oth2 k hkl, st2.block k hk hno]
      · rcases hk with q | rfl
        · exact ow k q
        · exact .inl hwl
      · have hv : Φ4.snap a = some v := hv
        have ow3 : ∀ k, Owned Φ3 σ3 k → S.wr k ∨ w.heap.size ≤ k := fun k hk => by
          rcases st3.ownd k hk with q | q
          · rcases st2.ownd k q with q | q
            · exact .inl ((h.wr k).2 (.inl ((o1 k).1 q)))
            · exact .inr q
          · have := st2.size; exact .inr (by omega)
        have ow2 : ∀ k, Owned Φ2 σ2 k → S.wr k ∨ w.heap.size ≤ k := fun k hk => by
          rcases st2.ownd k hk with q | q
          · exact .inl ((h.wr k).2 (.inl ((o1 k).1 q)))
          · exact .inr q
        have tw : S.wr a.block ∨ w.heap.size ≤ a.block → S.sn a = some v ∨ S.wr a.block ∨ w.heap.size ≤ a.block ∨ Ψ.snap a = some v := fun q => q.elim (fun q => .inr (.inl q)) (fun q => .inr (.inr (.inl q)))
        rcases st4.snapn a v hv with q | q | q
        · rcases st3.snapn a v q with q | q | q
          · rcases st2.snapn a v q with q | q | q
            · rcases s1 a v q with q | q
              · exact .inl q
              · exact .inr (.inr (.inr q))
            · exact tw (.inr q)
            · exact tw (.inl ((h.wr _).2 (.inl ((o1 _).1 q))))
          · have := st2.size; exact tw (.inr (by omega))
          · exact tw (ow2 _ q)
        · exact tw (.inr (by omega))
        · exact tw (ow3 _ q)
    cases e with
    | normal =>
      obtain ⟨σ4, f4, Φ4, k4, hend, S', hS1, hS2, hS3, hS4, hS5, hS6, hS7, hS8, hS9, hS10, hS11⟩ := fin none (rec .ready none) σ3 _ rfl q3
      exact ⟨_, _, hend, true, S', rfl, hS1, hS2, hS3, hS4, hS5, hS6, hS7, hS8, hS9, hS10, σ4, Φ4, k4, hS11⟩
    | ret =>
      obtain ⟨σ4, f4, Φ4, k4, hend, S', hS1, hS2, hS3, hS4, hS5, hS6, hS7, hS8, hS9, hS10, hS11⟩ := fin (some .ret) (rec .done (some .ret)) σ3 _ rfl q3
      exact ⟨_, _, hend, false, S', rfl, hS1, hS2, hS3, hS4, hS5, hS6, hS7, hS8, hS9, hS10, .ret, σ4, Φ4, .inl ⟨rfl, k4⟩, hS11⟩
    | exit id =>
      obtain ⟨σ4, f4, Φ4, k4, hend, S', hS1, hS2, hS3, hS4, hS5, hS6, hS7, hS8, hS9, hS10, hS11⟩ := fin (some (.exit id)) (rec .done (some (.exit id))) σ3 _ rfl q3
      exact ⟨_, _, hend, false, S', rfl, hS1, hS2, hS3, hS4, hS5, hS6, hS7, hS8, hS9, hS10, .exit id, σ4, Φ4, .inr ⟨id, rfl, k4⟩, hS11⟩
    | goto l => exact q3.elim
    | panic c => exact q3.elim
    | outgrown => exact q3.elim
  | exit id => exact q.elim
  | goto l => exact q.elim
  | ret => exact q.elim
  | panic c => exact q.elim
  | outgrown => exact q.elim
end Go.Proofs.YtfbodefnblpflaaGreatDoor
end

section
/- Loops over functions (3): the statement's rule, whole. -/
set_option linter.unusedVariables false
set_option linter.unusedSimpArgs false
namespace Go.Proofs.YtfbodefnblpflaaGreatDoor
theorem St.minus_le (σ τ : St) : (σ.minus τ).le σ := fun l o h => (minus_some h).2
/-- A loop over a function: the elements are known; σi is what the function holds, the rest is the loop's. -/
theorem mwp_rangeFunc {P : Program} {g : Operand} {ps : Array Tmp} {assign body : Code} {f : FR} {σ : St} {Q : MQ} {gf : FuncId} {ns : List MV} (hg : mval f g = .fn (.func gf) [] ns) {σi : St} (hle : σi.le σ) {xs : List (List MV)}
    (hseq : MSeq P gf ns σi xs) (hx : ∀ x, x ∈ xs → x.length = ps.size) (nda : noDefer assign = true) (ndb : noDefer body = true) {α : Type} (fc : FR) (hd0 : fc.d = f.d) (S : Nat → α → St) (p : Nat → α → Prop)
    (h0 : Gh f (σ.minus σi) fun f1 σ1 => f1 = fc ∧ ∃ a, σ1 = S 0 a ∧ p 0 a)
    (round : ∀ i x a, xs[i]? = some x → p i a → mwp P assign (mputs ⟨fc.n, fc.l, []⟩ ps.toList x) (S i a) (onlyN fun f1 σ1 => mwp P body f1 σ1 (roundQ Q fc fun σ2 => ∃ b, σ2 = S (i + 1) b ∧ p (i + 1) b)))
    (done : ∀ a, p xs.length a → Q .normal fc (S xs.length a)) : mwp P (.rangeFunc g ps assign body) f σ Q := by
  intro F hF Φ w a hi hr hd
  have hF' : F = Fence.wide := by
    rcases hF with h | ⟨l, _, h⟩
    · exact h
    · cases h
  subst hF'
  obtain ⟨f1, σ1, Φ1, -, ⟨rfl, a0, rfl, p0⟩, i1, r1, st1⟩ := h0 Φ w a.tmps (hi.less (St.minus_le σ σi)) hr
  have hv := rel_mval hr g
  rw [hg] at hv
  obtain ⟨first, cap, he, hfirst, hcap⟩ := hv.inv_fn
  have hfe : first = #[] := by
    have := hfirst.1
    exact Array.eq_empty_of_size_eq_zero (by simpa using this)
  subst hfe
  obtain ⟨fnn, hfn, hbody, hname⟩ := hseq.1
  have eg : ∀ (args : Array Value) (w : World), (callFunc gf args).run P w = .ok (.enter gf args) w := fun args w => by
    simp only [callFunc, Sem.run_bind, run_program, hfn, hname, hbody, Result.andThen_ok, Bool.false_eq_true, if_false, Sem.run_pure]
  refine wpIn_rangeFunc fun fn _ => ?_
  obtain ⟨rec, hrec⟩ : ∃ rec : LoopState → Option Code → Loop, rec = fun st pe => { state := st, pending := pe, fn, tmps := a.tmps, params := ps, assign, body, defers := w.heap.size } := ⟨_, rfl⟩
  obtain ⟨W1, hW1⟩ : ∃ W1, (w.alloc (.deferred (some []))).alloc (.loop (rec .ready none)) = W1 := ⟨_, rfl⟩
  have sz1 : W1.heap.size = w.heap.size + 2 := by rw [← hW1, World.size_alloc, World.size_alloc]
  have old : ∀ k, k < w.heap.size → W1.heap[k]? = w.heap[k]? := fun k hk => by
    rw [← hW1]
    show ((w.heap.push _).push _)[k]? = _
    rw [Array.getElem?_push, if_neg (by simp; omega), Array.getElem?_push, if_neg (by omega)]
  have hL : W1.heap[w.heap.size + 1]? = some (.loop (rec .ready none)) := by
    rw [← hW1]; have := World.alloc_heap_new (w.alloc (.deferred (some []))) (.loop (rec .ready none)); rwa [World.size_alloc] at this
  have hD : W1.heap[w.heap.size]? = some (Obj.deferred (some [])) := by
    rw [← hW1]
    show ((w.heap.push _).push _)[w.heap.size]? = _
    rw [Array.getElem?_push, if_neg (by simp), Array.getElem?_push, if_pos rfl]
  have eos : W1.os = w.os := by rw [← hW1]; rfl
  have eta : W1.tape = w.tape := by rw [← hW1]; rfl
  have eou : W1.output = w.output := by rw [← hW1]; rfl
  have edr : W1.drawn = w.drawn := by rw [← hW1]; rfl
  have gr : ∀ {Φ : Phi} {σ : St}, Inv Φ w σ → Inv Φ W1 σ ∧ Step Φ σ w Φ σ W1 := fun h => h.grow eos eta eou (by omega) (by omega) old
  have own1 : ∀ k, Owned Φ1 (S 0 a0) k → Owned Φ (σ.minus σi) k := fun k hk => by
    rcases st1.ownd k hk with q | q
    · exact q
    · exfalso
      obtain ⟨l, o, p, h1, h2, h3⟩ := hk
      obtain ⟨p', e, hlt⟩ := (i1.own l o h1).place
      rw [h2] at e; cases e
      have := hlt k h3
      omega
  have ownσ : ∀ {τ : St}, τ.le σ → ∀ k, Owned Φ τ k → Owned Φ σ k := fun hτ k hk => hk.less hτ
  have apart2 : ∀ k, Owned Φ (σ.minus σi) k → ¬ Owned Φ σi k := fun k ⟨l, o, p, h1, h2, h3⟩ ⟨l', o', p', h4, h5, h6⟩ => by
    have e := hi.inj l l' o o' p p' k (minus_some h1).2 (hle l' o' h4) h2 h5 h3 h6
    subst e
    have := (minus_some h1).1
    rw [h4] at this; cases this
  have hb := hd.base
  obtain ⟨S0, hS0⟩ : ∃ S0 : YS, S0 = ⟨W1, fun k => Owned Φ1 (S 0 a0) k ∨ k = w.heap.size + 1, Φ1.snap⟩ := ⟨_, rfl⟩
  have c0 : CStep Φ σ w.heap.size Φ1 (S 0 a0) := ⟨st1.le, fun b v q => (st1.snapn b v q).imp_right (fun q => q.imp_right (ownσ (St.minus_le _ _) _)), fun l o q => by
    rcases st1.locs l o q with ⟨o', h⟩ | h
    · exact .inl ⟨o', (minus_some h).2⟩
    · exact .inr h, fun R hR => .inl (ownσ (St.minus_le _ _) _ (own1 R hR))⟩
  have cst0 : CSt Φ σ w.heap.size a.tmps f1 (w.heap.size + 1) (rec .ready none) (S 0 a0) S0 Φ1 := by
    subst hS0
    exact ⟨(gr i1).1, r1, c0, fun _ => Iff.rfl, fun _ => rfl, hL, by simp only; omega, by simp only; rw [st1.le.base]; omega⟩
  have apt0 : Apt Φ σi S0 W1 := by
    have hag := cst0.agree
    subst hS0
    refine ⟨hag, fun k hk => ?_, fun b v q' => ?_, fun b v q hk => ?_⟩
    · rcases hk with hk | rfl
      · exact apart2 k (own1 k hk)
      · exact (gr (hi.less hle)).1.loopNot hL
    · rintro ⟨l, o, p, h1, h2, h3⟩
      rcases st1.snapn b v q' with q | q | q
      · exact hi.apart l o p b.block b v (hle l o h1) h2 h3 q rfl
      · have hlt := World.block_lt_of_cell? w b (i1.snap b v q')
        omega
      · exact apart2 _ q ⟨l, o, p, h1, h2, h3⟩
    · have hbl := World.block_lt_of_cell? w b (hi.snap b v q)
      rcases hk with hk | hk
      · obtain ⟨l, o, p, h1, h2, h3⟩ := own1 _ hk
        exact hi.apart l o p b.block b v (minus_some h1).2 h2 h3 q rfl
      · omega
  refine ⟨w.heap.size + 1, [{ target := .collected w.heap.size, args := #[] }], W1, { target := .fn (.func gf) cap, args := #[.func (.yield (w.heap.size + 1)) #[] #[]] }, W1, gf,
    #[.func (.yield (w.heap.size + 1)) #[] #[]] ++ cap, W1, ?_, ?_, fun _ _ => trivial, ?_, (fun q => by cases q), ?_⟩
  · rw [← hW1, hrec]; exact run_enterLoop_outer _ _ _ _ _
  · simp only [resolve, he]
    simp [go_sem]
  · simp [invoke, go_sem, eg]
  · refine callsIn_wide.2 ((hseq.2 (w.heap.size + 1)
      (fun i Sx => ∃ b Φc, p i b ∧ CSt Φ σ w.heap.size a.tmps f1 (w.heap.size + 1) (rec .ready none) (S i b) Sx Φc)
      (fun Sx => ∃ c σc Φc, ((c = .ret ∧ Q .ret f1 σc) ∨ ∃ id, c = .exit id ∧ Q (.exit id) f1 σc) ∧ CSt Φ σ w.heap.size a.tmps f1 (w.heap.size + 1) (rec .done (some c)) σc Sx Φc)
      Φ W1 S0 cap ?_ (gr (hi.less hle)).1 apt0 ⟨a0, Φ1, p0, cst0⟩ hcap).mono ?_)
    · rintro i x Sx W Ψ vs hix ⟨b, Φc, pb, cs⟩ hag hsz ho hs hvs
      have hx' := hx x (List.mem_of_getElem? hix)
      have := round_at (P := P) rec hrec nda ndb hx' (round i x b hix pb) cs hag (by omega) ho (fun u v q => ⟨(hs u v q).1, (hs u v q).2.1, (hs u v q).2.2.imp_right fun q => q.imp (fun q => by omega) (ownσ hle _)⟩) hvs
      obtain ⟨fn', t', as', bd', e1, e2⟩ := this
      refine ⟨fn', t', as', bd', e1, e2.mono ?_⟩
      rintro e w' ⟨bb, S', q1, q2, q3, q4, q5, q6, q7, q8, q9, q10, q11, q12⟩
      refine ⟨bb, S', q1, q2, q3, q4, q5, q6, q7, q8, q9, q10, q11, ?_⟩
      cases bb with
      | true =>
        obtain ⟨σ2, Φ2, ⟨b', rfl, pb'⟩, cs'⟩ := q12
        exact ⟨b', Φ2, pb', cs'⟩
      | false => exact q12
    · rintro e w3 ⟨v, Φe, σe, S', rfl, ie, apt, stS, hy⟩
      -- the loop's side behind the iterator
      have fin : ∀ (st : Loop) (σc : St) (Φc : Phi), CSt Φ σ w.heap.size a.tmps f1 (w.heap.size + 1) st σc S' Φc → st.state ≠ .busy → ∃ w4, (Instr.endLoop (w.heap.size + 1)).run P w3 = .ok st.pending w4 ∧
          Inv Φc w4 σc ∧ Step Φ σ w Φc σc w4 ∧ DRel Φc w4 ({ target := .collected w.heap.size, args := #[] } :: a.defers) f1.d := by
        intro st σc Φc cs hbusy
        have hlr : w3.heap[w.heap.size + 1]? = some (.loop st) := (apt.agree.same _ ((cs.wr _).2 (.inr rfl))).trans cs.lrec
        obtain ⟨w4, hw4⟩ : ∃ w4, w3.putObj (w.heap.size + 1) (.loop { st with state := .exhausted }) = w4 := ⟨_, rfl⟩
        have hend := run_endLoop (P := P) hlr hbusy
        rw [hw4] at hend
        have sz4 : w4.heap.size = w3.heap.size := by rw [← hw4, World.putObj_size]
        have szz : w.heap.size + 2 ≤ w3.heap.size := by have := stS.size; omega
        have i3 : Inv Φc w3 σc := by
          have hwr : ∀ k, Owned Φc σc k → w3.heap[k]? = S'.w.heap[k]? := fun k hk => apt.agree.same k ((cs.wr k).2 (.inl hk))
          exact ⟨fun l' o hl => (cs.inv.own l' o hl).mono (.refl _) fun p R h1 h2 => hwr R ⟨l', o, p, hl, h1, h2⟩, cs.inv.inj, fun b u q => apt.agree.sn b u (by rw [cs.sn b]; exact q), cs.inv.apart, cs.inv.fresh⟩
        have i4 : Inv Φc w4 σc := by rw [← hw4]; exact i3.putObj _ hlr (fun _ _ _ e => by cases e) (fun _ _ e => by cases e)
        have blk : ∀ k, k < w.heap.size → ¬ Owned Φ σ k → w4.heap[k]? = w.heap[k]? := fun k hk hn => by
          rw [← hw4, World.putObj_heap_other (by omega), stS.block k (by omega) (fun q => hn (ownσ hle k q)) (fun q => ?_), old k hk]
          subst hS0
          rcases q with q | q
          · exact hn (ownσ (St.minus_le _ _) k (own1 k q))
          · omega
        have hmark : w4.heap[w.heap.size]? = some (Obj.deferred (some [])) := by
          rw [← hw4, World.putObj_heap_other (by omega), stS.block _ (by omega) ((gr (hi.less hle)).1.mark hD) (fun q => ?_), hD]
          subst hS0
          rcases q with q | q
          · exact (gr i1).1.mark hD q
          · omega
        have step4 : Step Φ σ w Φc σc w4 :=
          ⟨cs.step.le, by rw [← hw4]; exact stS.os.trans eos, by rw [← hw4]; exact stS.tape.trans eta, by rw [← hw4]; exact stS.output.trans eou, by
            have e : w4.drawn = w3.drawn := by rw [← hw4]; rfl
            have := stS.drawn; omega, by omega, blk, cs.step.snapn, cs.step.locs, cs.step.ownd⟩
        refine ⟨w4, hend, i4, step4, .inl ⟨w.heap.size, rfl, by rw [cs.step.le.base]; exact hb, hmark, fun y hy e => ?_, hd0 ▸ hd.step hi step4⟩⟩
        -- the mark is a new one
        have : ∀ (ds : List Deferred) (d : List (FuncId × List MV)), DRel Φ w ds d → ∀ y, y ∈ ds → y.target ≠ .collected w.heap.size := by
          intro ds
          induction ds with
          | nil => intro d _ y hy; cases hy
          | cons z ds ih =>
            intro d h y hy
            rcases h with ⟨D, k1, k2, k3, k4, k5⟩ | ⟨g, ms, r, cp, k1, k2, k3, k4⟩
            · rcases List.mem_cons.1 hy with rfl | hy
              · rw [k1]; intro e; cases e
                have := (Array.getElem?_eq_some_iff.1 k3).1
                omega
              · exact ih d k5 y hy
            · rcases List.mem_cons.1 hy with rfl | hy
              · rw [k2]; intro e; cases e
              · exact ih r k4 y hy
        exact this a.defers f.d hd y hy e
      rcases hy with ⟨b, Φc, pb, cs⟩ | ⟨c, σc, Φc, hc, cs⟩
      · obtain ⟨w4, hend, i4, s4, d4⟩ := fin _ _ _ cs (by rw [hrec]; simp)
        refine ⟨none, w4, by rw [hend, hrec], f1, _, Φc, d4, cs.frame, i4, s4, done b pb⟩
      · obtain ⟨w4, hend, i4, s4, d4⟩ := fin _ _ _ cs (by rw [hrec]; simp)
        refine ⟨some c, w4, by rw [hend, hrec], ?_⟩
        rcases hc with ⟨rfl, q⟩ | ⟨id, rfl, q⟩
        · exact wpIn_ret ⟨f1, _, Φc, d4, cs.frame, i4, s4, q⟩
        · exact wpIn_exit ⟨f1, _, Φc, d4, cs.frame, i4, s4, q⟩
end Go.Proofs.YtfbodefnblpflaaGreatDoor
end

section
/- Functions that hand on elements: walks with calls of yield. -/
set_option linter.unusedVariables false
set_option linter.unusedSimpArgs false
namespace Go.Proofs.YtfbodefnblpflaaGreatDoor
/-- A value that names none of our places. -/
inductive NoObj : MV → Prop where
  | flat {m : MV} (h : Flat m) : NoObj m
  | lst {e : Nat} {xs : List (List MV)} {t : Bool} (h : ∀ x, x ∈ xs → ∀ m, m ∈ x → NoObj m) : NoObj (.lst e xs t)
  | cptr {cs : List MV} (h : ∀ m, m ∈ cs → NoObj m) : NoObj (.cptr cs)
  | agg {cs : List MV} (h : ∀ m, m ∈ cs → NoObj m) : NoObj (.agg cs)
theorem NoObj.rel {Φ Φ' : Phi} (hs : ∀ a v, Φ.snap a = some v → Φ'.snap a = some v) {m : MV} (h : NoObj m) : ∀ {v : Value}, Rel Φ v m → Rel Φ' v m := by
  induction h with
  | flat h => intro v r; exact h.rel r
  | lst h ih =>
    intro v r
    cases r with
    | lstn => exact .lstn _ _
    | lst0 a _ cap _ ht hm => exact .lst0 a _ cap _ ht hm
    | lst hl h0 hcap hm ht hx vs hc hr =>
      exact .lst hl h0 hcap hm ht hx vs (fun i x j m a b => ⟨(hc i x j m a b).1, hs _ _ (hc i x j m a b).2⟩) fun i x j m a b => ih x (List.mem_of_getElem? a) m (List.mem_of_getElem? b) (hr i x j m a b)
  | cptr h ih =>
    intro v r
    cases r with
    | cptr vs hc hr => exact .cptr vs (fun j m hm => ⟨(hc j m hm).1, hs _ _ (hc j m hm).2⟩) fun j m hm => ih m (List.mem_of_getElem? hm) (hr j m hm)
  | agg h ih =>
    intro v r
    cases r with
    | agg h1 h2 h3 => exact .agg h1 h2 fun i m hm => ih m (List.mem_of_getElem? hm) (h3 i m hm)
/-- What an iterator's walk knows: the loop, the elements, the other side's states, and where it began. -/
structure YC where
  l : Nat
  xs : List (List MV)
  Y : Nat → YS → Prop
  Yx : YS → Prop
  Φ0 : Phi
  σ0 : St
  n0 : Nat
def YC.st (C : YC) : Option Nat → YS → Prop
  | some i, S => C.Y i S
  | none, S => C.Yx S
structure YInv (C : YC) (Φ : Phi) (σ : St) (w : World) (S : YS) (t : Option Nat) : Prop where
  inv : Inv Φ w σ
  apt : Apt Φ σ S w
  snapn : ∀ a v, Φ.snap a = some v → C.Φ0.snap a = some v ∨ C.n0 ≤ a.block ∨ Owned C.Φ0 C.σ0 a.block
  ownd : ∀ R, Owned Φ σ R → Owned C.Φ0 C.σ0 R ∨ C.n0 ≤ R
  size : C.n0 ≤ w.heap.size
  st : C.st t S
abbrev YQ := Exit → FR → St → Option Nat → Prop
def liftY (C : YC) (Φ : Phi) (σ : St) (w : World) (S : YS) (Q : YQ) : Exit → Act → World → Prop := fun e a' w' =>
  ∃ f' σ' t' Φ' S', YInv C Φ' σ' w' S' t' ∧ FRel Φ' a'.tmps f' ∧ DRel Φ' w' a'.defers f'.d ∧ StepS Φ σ w S Φ' σ' w' S' ∧ Q e f' σ' t'
def ywp (P : Program) (C : YC) (c : Code) (f : FR) (σ : St) (t : Option Nat) (Q : YQ) : Prop :=
  ∀ F, FOk F c → ∀ Φ w a S, YInv C Φ σ w S t → FRel Φ a.tmps f → DRel Φ w a.defers f.d → c.wpIn F 0 P (liftY C Φ σ w S Q) a w
section rules
variable {P : Program} {C : YC} {f : FR} {σ : St} {t : Option Nat} {Q : YQ}
theorem liftY_le {Φ Φ1 : Phi} {σ σ1 : St} {w0 w1 : World} {S S1 : YS} (h : StepS Φ σ w0 S Φ1 σ1 w1 S1) {e : Exit} {a : Act} {w : World} (k : liftY C Φ1 σ1 w1 S1 Q e a w) : liftY C Φ σ w0 S Q e a w :=
  let ⟨f', σ', t', Φ', S', h1, h2, h3, h4, h5⟩ := k
  ⟨f', σ', t', Φ', S', h1, h2, h3, h.trans h4, h5⟩
theorem YInv.go {Φ Φ' : Phi} {σ σ' : St} {w w' : World} {S : YS} (h : YInv C Φ σ w S t) (i : Inv Φ' w' σ') (s : Step Φ σ w Φ' σ' w') : YInv C Φ' σ' w' S t :=
  ⟨i, h.apt.step s, fun a v q => by
    rcases s.snapn a v q with q | q | q
    · exact h.snapn a v q
    · exact .inr (.inl (Nat.le_trans h.size q))
    · rcases h.ownd _ q with q | q
      · exact .inr (.inr q)
      · exact .inr (.inl q), fun R hR => by
    rcases s.ownd R hR with q | q
    · exact h.ownd R q
    · exact .inr (Nat.le_trans h.size q), Nat.le_trans h.size s.size, h.st⟩
theorem ywp_of {c : Code} (h : mwp P c f σ fun e f' σ' => Q e f' σ' t) : ywp P C c f σ t Q :=
  fun F hF Φ w a S hi hr hd => wpIn_mono (h F hF Φ w a hi.inv hr hd) fun _ _ _ ⟨f', σ', Φ', x1, x2, x3, x4, q⟩ => ⟨f', σ', t, Φ', S, hi.go x3 x4, x2, x1, .of S x4, q⟩
def thenY (next : FR → St → Option Nat → Prop) (Q : YQ) : YQ
  | .normal, f, σ, t => next f σ t
  | e, f, σ, t => Q e f σ t
theorem ywp_seq {x y : Code} (h : ywp P C x f σ t (thenY (fun f' σ' t' => ywp P C y f' σ' t' Q) Q)) : ywp P C (.seq x y) f σ t Q := by
  intro F hF Φ w a S hi hr hd
  refine wpIn_seq (wpIn_mono (h F hF.seq1 Φ w a S hi hr hd) fun e a' w' ⟨f', σ', t', Φ', S', h1, h2, h3, h4, q⟩ => ?_)
  cases e with
  | normal => exact wpIn_mono (q F hF.seq2 Φ' w' a' S' h1 h2 h3) fun _ _ _ hq => liftY_le h4 hq
  | _ => exact ⟨f', σ', t', Φ', S', h1, h2, h3, h4, q⟩
def blockY (id : Nat) (Q : YQ) : YQ
  | .exit id', f, σ, t => if id' = id then Q .normal f σ t else Q (.exit id') f σ t
  | e, f, σ, t => Q e f σ t
theorem ywp_block {id : Nat} {c : Code} (h : ywp P C c f σ t (blockY id Q)) : ywp P C (.block id c) f σ t Q := by
  intro F hF Φ w a S hi hr hd
  refine wpIn_block (wpIn_mono (h F hF.block Φ w a S hi hr hd) fun e a' w' ⟨f', σ', t', Φ', S', h1, h2, h3, h4, q⟩ => ?_)
  cases e with
  | exit id' =>
    simp only [Exit.inBlock]
    simp only [blockY] at q
    split
    · rw [if_pos (by assumption)] at q; exact ⟨f', σ', t', Φ', S', h1, h2, h3, h4, q⟩
    · rw [if_neg (by assumption)] at q; exact ⟨f', σ', t', Φ', S', h1, h2, h3, h4, q⟩
  | _ => exact ⟨f', σ', t', Φ', S', h1, h2, h3, h4, q⟩
theorem ywp_gh {c : Code} (h : Gh f σ fun f1 σ1 => ywp P C c f1 σ1 t Q) : ywp P C c f σ t Q := by
  intro F hF Φ w a S hi hr hd
  obtain ⟨f1, σ1, Φ1, hf, k1, i1, r1, s1⟩ := h Φ w a.tmps hi.inv hr
  exact wpIn_mono (k1 F hF Φ1 w a S (hi.go i1 s1) r1 (hf ▸ hd.step hi.inv s1)) fun _ _ _ hq => liftY_le (.of S s1) hq
theorem ywp_loop {α : Type} {c : Code} (Fr : α → FR) (Sr : α → St) (T : α → Option Nat) (p : α → Prop) (μ : α → Nat) (h0 : Gh f σ fun f1 σ1 => ∃ a, f1 = Fr a ∧ σ1 = Sr a ∧ t = T a ∧ p a)
    (round : ∀ a, p a → ywp P C c (Fr a) (Sr a) (T a) (thenY (fun f' σ' t' => Gh f' σ' fun f1 σ1 => ∃ b, f1 = Fr b ∧ σ1 = Sr b ∧ t' = T b ∧ p b ∧ μ b < μ a) Q)) : ywp P C (.loop c) f σ t Q := by
  refine ywp_gh (fun Φ w vs hi hr => ?_)
  obtain ⟨f1, σ1, Φ1, hf, ⟨a0, e1, e2, e3, p0⟩, i1, r1, s1⟩ := h0 Φ w vs hi hr
  subst e1; subst e2; subst e3
  refine ⟨_, _, Φ1, hf, ?_, i1, r1, s1⟩
  clear h0 hi hr s1 i1 r1 hf
  intro Fe hF Φ w a S hi hr hd b k cs hro hb hroom
  have key : ∀ n x Φ w a S, μ x = n → p x → YInv C Φ (Sr x) w S (T x) → FRel Φ a.tmps (Fr x) → DRel Φ w a.defers (Fr x).d →
      ∃ e a' w', liftY C Φ (Sr x) w S Q e a' w' ∧ ArrivesIn (Machine.fenced P Fe) P (lone (b.atR a (.code c :: .inLoop c :: k)) cs w) b k cs e a' w' := by
    intro n
    induction n using Nat.strongRecOn with
    | _ n ih =>
      intro x Φ w a S hn hI hi hr hd
      obtain ⟨e, a₁, w₁, hq, harr⟩ := round x hI Fe hF.loop Φ w a S hi hr hd b (.inLoop c :: k) cs hro hb hroom
      cases e with
      | normal =>
        obtain ⟨f', σ', t', Φ', S', y1, y2, y3, y4, g2⟩ := hq
        obtain ⟨f2, σ2, Φ2, g0, ⟨x2, e1, e2, e3, hI2, hlt⟩, i2, r2, s2⟩ := g2 Φ' w₁ a₁.tmps y1.inv y2
        subst e1; subst e2; subst e3
        obtain ⟨e₂, a₂, w₂, hq₂, harr₂⟩ := ih (μ x2) (hn ▸ hlt) x2 Φ2 w₁ a₁ S' rfl hI2 (y1.go i2 s2) r2 (g0 ▸ y3.step y1.inv s2)
        exact ⟨e₂, a₂, w₂, liftY_le (y4.trans (.of S' s2)) hq₂, .of_steps (StepsIn.trans harr (.one (fenced_calm hb hroom rfl) stepR_inLoop)) harr₂⟩
      | exit id => exact ⟨_, a₁, w₁, hq, .pass (x := .inLoop c) rfl (fun _ _ => .inl (by simp)) harr⟩
      | goto l => exact ⟨_, a₁, w₁, hq, .pass (x := .inLoop c) rfl (fun _ _ => .inl (by simp)) harr⟩
      | ret => exact ⟨_, a₁, w₁, hq, .pass (x := .inLoop c) rfl (fun _ _ => .inl (by simp)) harr⟩
      | panic ch => exact ⟨_, a₁, w₁, hq, .pass (x := .inLoop c) rfl (fun _ _ => .inl (by simp)) harr⟩
      | outgrown => exact ⟨_, a₁, w₁, hq, .pass (x := .inLoop c) rfl (fun _ _ => .inl (by simp)) harr⟩
  obtain ⟨e, a', w', hq, harr⟩ := key _ a0 Φ w a S rfl p0 hi hr hd
  exact ⟨e, a', w', hq, .of_steps (.one (fenced_calm hb hroom rfl) stepR_loop) harr⟩
/-- Operations, and what comes behind them. -/
theorem mops_run {ops : Array Oper} {K : FR → St → Prop} {F : Fence} {Qm : Exit → Act → World → Prop} {rest : List Oper} : ∀ (l : List Oper), (F = Fence.wide ∨ ∃ l0, F = Fence.wide.inRound l0) → (∀ o, o ∈ l → ∀ c, o.op ≠ .defer c) → ∀ (f : FR) (σ : St) (Φ : Phi) (w : World) (a : Act),
    mops P ops K l f σ → Inv Φ w σ → FRel Φ a.tmps f → DRel Φ w a.defers f.d →
    (∀ f' σ' Φ' w' a', K f' σ' → Inv Φ' w' σ' → FRel Φ' a'.tmps f' → DRel Φ' w' a'.defers f'.d → Step Φ σ w Φ' σ' w' → wpListIn F 0 P ops Qm rest a' w') → wpListIn F 0 P ops Qm (l ++ rest) a w := by
  intro l hF
  have hfn : ∀ g, F.fn g := fun g => by rcases hF with rfl | ⟨l, rfl⟩ <;> trivial
  induction l with
  | nil => intro _ f σ Φ w a h hi hr hd hk; exact hk f σ Φ w a h hi hr hd (.refl _ _ _)
  | cons o r ih =>
    intro hdf f σ Φ w a h hi hr hd hk
    have hdo : ∀ c, o.op ≠ .defer c := hdf o (by simp)
    have ih := ih fun o ho => hdf o (by simp [ho])
    have hFo : F = Fence.wide ∨ ∃ l0, F = Fence.wide.inRound l0 ∧ ∀ c, o.op ≠ .defer c := hF.imp id fun ⟨l0, e⟩ => ⟨l0, e, hdo⟩
    simp only [mops] at h
    rw [List.cons_append]
    unfold wpListIn
    rcases mguard_sound h hr with ⟨hw, hy⟩ | ⟨hw, hn⟩
    · rw [if_pos hw]
      refine wpIn_of_wp hFo (mstep_sound hdo hy Φ w a _ _ hi hr fun v mv σ' Φ' w' r1 i1 s1 hk1 => ?_)
      exact ih _ _ Φ' w' (a.put o.dst v) hk1 i1 (rels_put (hr.mono s1.le) o.dst r1) (by rw [put_defers', mput_d]; exact hd.step hi s1) fun f' σ' Φ2 w2 a2 k1 k2 k3 k4 k5 => hk f' σ' Φ2 w2 a2 k1 k2 k3 k4 (s1.trans k5)
    · rw [if_neg (by simp [hw])]
      exact ⟨fun f _ => hfn f, ih _ _ Φ w (a.put o.dst undef) hn hi (rels_put hr o.dst rel_undef) (by rw [put_defers', mput_d]; exact hd) hk⟩
theorem roundIn_wide' {F : Fence} (hF : F = Fence.wide ∨ ∃ l, F = Fence.wide.inRound l) {n : Nat} {l : Nat} {fn : FuncId} {tmps : Array Value} {assign body : Code} {w : World} {R : Ending → World → Prop} (h : RoundIn Fence.wide n P l fn tmps assign body w R) : RoundIn F n P l fn tmps assign body w R := by
  rcases hF with rfl | ⟨l0, rfl⟩
  · exact h
  · exact h
/-- A call of yield among operations. -/
theorem ywp_region {id : Nat} {ops : Array Oper} (pre : List Oper) (y : Oper) (post : List Oper) (ho : ops.toList = pre ++ y :: post) (hpre : ∀ o, o ∈ pre → ∀ c, o.op ≠ .defer c) (hpost : ∀ o, o ∈ post → ∀ c, o.op ≠ .defer c)
    {o : Operand} {args : Array Operand} {ts : Array TypeId} (hy : y.op = .call ⟨.value o, args, ts⟩) (hg : y.guard = none) {i : Nat} (ht : t = some i) {x : List MV} (hx : C.xs[i]? = some x) (hno : ∀ m, m ∈ x → NoObj m)
    (hspec : YSpec P C.l C.xs C.Y C.Yx C.Φ0 C.σ0 C.n0)
    (h : mops P ops (fun f1 σ1 => mval f1 o = .fn (.yield C.l) [] [] ∧ args.toList.map (mval f1) = x ∧ mops P ops (fun f2 σ2 => Q .normal f2 σ2 (some (i + 1))) post (mput f1 y.dst (.bool true)) σ1 ∧
      mops P ops (fun f2 σ2 => Q .normal f2 σ2 none) post (mput f1 y.dst (.bool false)) σ1) pre f σ) : ywp P C (.region id ops false) f σ t Q := by
  intro F hF Φ w a S hi hr hd
  subst ht
  have hF' : F = Fence.wide ∨ ∃ l0, F = Fence.wide.inRound l0 := Or.imp (fun q => q) (fun ⟨l0, e, _⟩ => ⟨l0, e⟩) hF
  have hro : F.room 0 := hF.room 0
  refine wpIn_region_list ?_
  rw [ho]
  refine mops_run pre hF' hpre f σ Φ w a h hi.inv hr hd fun f1 σ1 Φ1 w1 a1 hk i1 r1 d1 s1 => ?_
  obtain ⟨hv, hargs, ht, hfl⟩ := hk
  have hi1 := hi.go i1 s1
  unfold wpListIn
  rw [if_pos (by unfold Region.wanted; rw [hg])]
  have rv := rel_mval r1 o
  rw [hv] at rv
  obtain ⟨first, cap, he, h1, h2⟩ := rv.inv_fn
  have e1 : first = #[] := Array.eq_empty_of_size_eq_zero (by simpa using h1.1)
  have e2 : cap = #[] := Array.eq_empty_of_size_eq_zero (by simpa using h2.1)
  subst e1 e2
  have hrels := rels_map r1 args
  rw [hargs] at hrels
  obtain ⟨Ψ, hΨ⟩ : ∃ Ψ : Phi, Ψ = ⟨Φ1.snap, fun _ => none, 0⟩ := ⟨_, rfl⟩
  have hrels' : Rels Ψ (args.map a1.eval) x := ⟨hrels.1, fun j m hm => by
    subst hΨ
    exact NoObj.rel (Φ := Φ1) (Φ' := ⟨Φ1.snap, fun _ => none, 0⟩) (fun _ _ q => q) (hno m (List.mem_of_getElem? hm)) (hrels.2 j m hm)⟩
  obtain ⟨fn, tmps, assign, body, hrun, hround⟩ := hspec i x S w1 Ψ (args.map a1.eval) hx hi1.st hi1.apt.agree hi1.size (fun m => by subst hΨ; rfl) (fun b v q => by
    subst hΨ
    exact ⟨i1.snap b v q, hi1.apt.snap b v q, hi1.snapn b v q⟩) hrels'
  have hsem : (y.semAt F.round a1.eval).run P w1 = .ok (.round C.l fn tmps assign body) w1 := by
    rw [Oper.semAt_eq _ _ _ (by rw [hy]; intro c e; cases e)]
    unfold execOp
    simp only [hy, resolve, he, Deferred.ofValue, Sem.run_bind, Sem.run_pure, Result.andThen_ok, invoke, Array.empty_append, Array.append_empty]
    exact hrun
  refine ⟨fun g _ => hF.fn g, ?_⟩
  rw [hsem]
  refine ⟨(fun q => by rw [hF.depth] at q; cases q), ?_⟩
  refine (roundIn_wide' hF' hround).mono ?_
  rintro e w2 ⟨b, S', rfl, hS1, hS2, hS3, hS4, hS5, hS6, hS7, hS8, hS9, hS10, hS11⟩
  -- our own side is as it was
  have ow : ∀ k, Owned Φ1 σ1 k → w2.heap[k]? = w1.heap[k]? := fun k hk => by
    refine hS8 k ?_ fun q => hi1.apt.own k q hk
    obtain ⟨l, ob, p, q1, q2, q3⟩ := hk
    obtain ⟨p', e, hlt⟩ := (i1.own l ob q1).place
    rw [q2] at e; cases e
    exact hlt k q3
  have i2 : Inv Φ1 w2 σ1 := ⟨fun l ob hl => (i1.own l ob hl).mono (.refl _) fun p R q1 q2 => ow R ⟨l, ob, p, hl, q1, q2⟩, i1.inj, fun c v q => by
      have hb := World.block_lt_of_cell? w1 c (i1.snap c v q)
      rw [World.cell?_heap (hS8 c.block hb (hi1.apt.snap c v q))]
      exact i1.snap c v q, i1.apart, i1.fresh⟩
  have apt2 : Apt Φ1 σ1 S' w2 := by
    have lt1 : ∀ k, Owned Φ1 σ1 k → k < w1.heap.size := fun k ⟨l, ob, p, q1, q2, q3⟩ => by
      obtain ⟨p', e, hlt⟩ := (i1.own l ob q1).place
      rw [q2] at e; cases e
      exact hlt k q3
    refine ⟨hS2, fun k hk ho => ?_, fun c v q ho => ?_, fun c v q hk => ?_⟩
    · rcases hS9 k hk with q | q
      · exact hi1.apt.own k q ho
      · have := lt1 k ho; omega
    · rcases hS10 c v q with q | q | q | q
      · exact hi1.apt.snown c v q ho
      · exact hi1.apt.own _ q ho
      · have := lt1 _ ho; omega
      · subst hΨ
        obtain ⟨l, ob, p, q1, q2, q3⟩ := ho
        exact i1.apart l ob p c.block c v q1 q2 q3 q rfl
    · rcases hS9 _ hk with p | p
      · exact hi1.apt.snap c v q p
      · have := World.block_lt_of_cell? w1 c (i1.snap c v q); omega
  have st2 : StepS Φ1 σ1 w1 S Φ1 σ1 w2 S' := ⟨.refl _, hS3, hS4, hS5, hS6, hS7, fun k hk _ hw => hS8 k hk hw, fun c v q => .inl q, fun R q => .inl q, hS9, fun c v q => by
    subst hΨ
    rcases hS10 c v q with q | q | q | q
    · exact .inl q
    · exact .inr (.inl q)
    · exact .inr (.inr (.inl q))
    · exact .inr (.inr (.inr (.inl q)))⟩
  have d2 : DRel Φ1 w2 a1.defers f1.d := d1.mono (.refl _) hS7 fun D hD => by
    rw [hS8 D (Array.getElem?_eq_some_iff.1 hD).1 (fun q => hi1.apt.agree.nomark D q _ ((hi1.apt.agree.same D q).symm.trans hD))]
    exact hD
  have go : ∀ (b : Bool) (t' : Option Nat), C.st t' S' → mops P ops (fun f2 σ2 => Q .normal f2 σ2 t') post (mput f1 y.dst (.bool b)) σ1 → wpListIn F 0 P ops (liftY C Φ σ w S Q) post (a1.put y.dst (.bool b)) w2 := by
    intro b t' hst hm
    have hyi : YInv C Φ1 σ1 w2 S' t' := ⟨i2, apt2, hi1.snapn, hi1.ownd, Nat.le_trans hi1.size hS7, hst⟩
    have := mops_run (rest := []) (Qm := liftY C Φ σ w S Q) post hF' hpost (mput f1 y.dst (.bool b)) σ1 Φ1 w2 (a1.put y.dst (.bool b)) hm i2 (rels_put r1 y.dst (.bool b)) (by rw [put_defers', mput_d]; exact d2) fun f2 σ2 Φ2 w3 a3 k1 k2 k3 k4 k5 => by
      unfold wpListIn
      exact ⟨f2, σ2, t', Φ2, S', hyi.go k2 k5, k3, k4, ((StepS.of S s1).trans st2).trans (.of S' k5), k1⟩
    rwa [List.append_nil] at this
  cases b with
  | true => exact go true (some (i + 1)) (by rw [if_pos rfl] at hS11; exact hS11) ht
  | false => exact go false none (by rw [if_neg (by decide)] at hS11; exact hS11) hfl
end rules
/-! ### Whole iterators -/
/-- Marks are shut at the end: the other side is as it was. -/
theorem Apt.putObj {Φ : Phi} {σ : St} {S : YS} {w : World} (h : Apt Φ σ S w) {D : Nat} {x : Option (List Deferred)} (o' : Obj) (hD : w.heap[D]? = some (Obj.deferred x)) : Apt Φ σ S (w.putObj D o') := by
  have hne : ∀ k, S.wr k → k ≠ D := fun k hk e => h.agree.nomark k hk x (by rw [← h.agree.same k hk, e]; exact hD)
  refine ⟨⟨fun k hk => (World.putObj_heap_other (hne k hk)).trans (h.agree.same k hk), h.agree.lt, h.agree.nomark, fun a v q => ?_, by rw [World.putObj_size]; exact h.agree.size, h.agree.os, h.agree.tape, h.agree.output, h.agree.drawn⟩, h.own, h.snown, h.snap⟩
  have hc := h.agree.sn a v q
  rw [← hc]
  refine World.cell?_heap (World.putObj_heap_other fun e => ?_)
  rw [World.cell?, e, hD] at hc
  simp at hc
theorem leavesY {P : Program} {fn : Func} {tmps : Array Value} {C : YC} {t : Option Nat} (hrs : fn.results.toList = []) {Φ0 : Phi} {σ0 : St} {w0 : World} {S0 : YS} (h0 : Φ0.base = w0.heap.size) {R : Ending → World → Prop} (hR : ∀ v Φ' w' σ' S', YInv C Φ' σ' w' S' t → StepS Φ0 σ0 w0 S0 Φ' σ' w' S' → R (.returned v) w') :
    ∀ (ds : List Deferred) (Φ : Phi) (w : World) (σ : St) (S : YS), DRel Φ w ds [] → YInv C Φ σ w S t → StepS Φ0 σ0 w0 S0 Φ σ w S → LeavesM P fn tmps R ds w := by
  intro ds
  induction ds with
  | nil =>
    intro Φ w σ S _ hi hs
    refine ⟨.tuple #[], ?_, hR _ Φ w σ S hi hs⟩
    rw [results_eq]
    have : fn.results = #[] := Array.toList_eq_nil_iff.1 hrs
    simp only [this]
    first | rfl | simp [Sem.run_bind, Sem.run_pure]
  | cons x ds ih =>
    intro Φ w σ S hd hi hs
    rcases hd with ⟨D, h1, h2, h3, h4, h5⟩ | ⟨g, ms, r, cap, h, _⟩
    · refine .inl ⟨D, _, h1, run_takeDeferred h3, ?_⟩
      have hDb : w0.heap.size ≤ D := by rw [← h0, ← hs.le.base]; exact h2
      have i' := hi.inv.putObj (.deferred none) h3 (fun _ _ _ e => by cases e) (fun _ _ e => by cases e)
      have s' : StepS Φ0 σ0 w0 S0 Φ σ (w.putObj D (.deferred none)) S :=
        ⟨hs.le, hs.os, hs.tape, hs.output, hs.drawn, by rw [World.putObj_size]; exact hs.size, fun k hk hn hw => (World.putObj_heap_other (by omega)).trans (hs.block k hk hn hw), hs.snapn, hs.ownd, hs.wr, hs.sn⟩
      refine ih Φ _ σ S ?_ ⟨i', hi.apt.putObj _ h3, hi.snapn, hi.ownd, by rw [World.putObj_size]; exact hi.size, hi.st⟩ s'
      have : ∀ (xs : List Deferred) (d : List (FuncId × List MV)), (∀ y, y ∈ xs → y.target ≠ .collected D) → DRel Φ w xs d → DRel Φ (w.putObj D (.deferred none)) xs d := by
        intro xs
        induction xs with
        | nil => intro d _ h; exact ⟨h.1, by rw [World.putObj_size]; exact h.2⟩
        | cons y xs ihx =>
          intro d hy h
          rcases h with ⟨D', k1, k2, k3, k4, k5⟩ | ⟨g, ms, r, cap, k1, k2, k3, k4⟩
          · refine .inl ⟨D', k1, k2, ?_, k4, ihx d (fun z hz => hy z (by simp [hz])) k5⟩
            rw [World.putObj_heap_other]
            · exact k3
            · intro e; exact hy y (by simp) (by rw [k1, e])
          · exact .inr ⟨g, ms, r, cap, k1, k2, k3, ihx r (fun z hz => hy z (by simp [hz])) k4⟩
      exact this ds [] h4 h5
    · cases h
def retY (n : Nat) : YQ
  | .normal, f, _, t => f.d = [] ∧ (t = some n ∨ t = none)
  | .ret, f, _, t => f.d = [] ∧ (t = some n ∨ t = none)
  | _, _, _, _ => False
theorem YSpec.rebase {P : Program} {l : Nat} {xs : List (List MV)} {Y : Nat → YS → Prop} {Yx : YS → Prop} {Φ : Phi} {σ : St} {n0 : Nat} (h : YSpec P l xs Y Yx Φ σ n0) (n : Nat) : YSpec P l xs Y Yx (Φ.rebase n) σ n0 :=
  fun i x S w' Ψ vs h1 h2 h3 h4 h5 h6 h7 => h i x S w' Ψ vs h1 h2 h3 h4 h5 h6 h7
theorem Apt.rebase {Φ : Phi} {σ : St} {S : YS} {w : World} (h : Apt Φ σ S w) (n : Nat) : Apt (Φ.rebase n) σ S w := ⟨h.agree, h.own, h.snown, h.snap⟩
theorem StepS.rebase {Φ Φ' : Phi} {σ σ' : St} {w w' : World} {S S' : YS} {n : Nat} (h : StepS (Φ.rebase n) σ w S Φ' σ' w' S') : StepS Φ σ w S (Φ'.rebase Φ.base) σ' w' S' :=
  ⟨⟨h.le.snap, h.le.obj, rfl⟩, h.os, h.tape, h.output, h.drawn, h.size, h.block, h.snapn, h.ownd, h.wr, h.sn⟩
/-- An iterator, by its body. -/
theorem MSeq.of_body {P : Program} {g : FuncId} {fn : Func} {c : Code} {ns : List MV} {σi : St} {xs : List (List MV)} (n : Nat) (hf : P.funcs[g]? = some fn) (hb : fn.body = some c) (hn : (fn.name == "runtime.NumGoroutine") = false)
    (hn' : max fn.ntmps (ns.length + 1) = n) (hrs : fn.results.toList = [])
    (h : ∀ C : YC, C.xs = xs → YSpec P C.l C.xs C.Y C.Yx C.Φ0 C.σ0 C.n0 → ywp P C c ⟨n, args0 0 (.fn (.yield C.l) [] [] :: ns), []⟩ σi (some 0) (retY xs.length)) : MSeq P g ns σi xs := by
  refine ⟨⟨fn, hf, by simp [hb], hn⟩, fun l Y Yx Φ w S vs hspec hi ha h0 hr => ?_⟩
  obtain ⟨C, hC⟩ : ∃ C : YC, C = ⟨l, xs, Y, Yx, Φ.rebase w.heap.size, σi, w.heap.size⟩ := ⟨_, rfl⟩
  have hargs : Rels (Φ.rebase w.heap.size) (#[Value.func (.yield l) #[] #[]] ++ vs) (.fn (.yield l) [] [] :: ns) := by
    refine ⟨by simp [hr.1]; omega, fun i m hm => ?_⟩
    cases i with
    | zero =>
      simp only [List.getElem?_cons_zero, Option.some.injEq] at hm
      subst hm
      have e : (#[Value.func (.yield l) #[] #[]] ++ vs).getD 0 undef = Value.func (.yield l) #[] #[] := by
        simp [Array.getD_eq_getD_getElem?, Array.getElem?_append]
      rw [e]
      exact rel_ofV _ (.func (.yield l) #[] #[])
    | succ i =>
      have := (hr.2 i m (by simpa using hm)).rebase w.heap.size
      have e : (#[Value.func (.yield l) #[] #[]] ++ vs).getD (i + 1) undef = vs.getD i undef := by
        simp [Array.getD_eq_getD_getElem?, Array.getElem?_append]
      rw [e]; exact this
  have hfr := frel_args (fn := fn) hargs
  rw [List.length_cons, hn'] at hfr
  have hbody := h C (by rw [hC]) (by rw [hC]; exact hspec.rebase _)
  have hst : YInv C (Φ.rebase w.heap.size) σi w S (some 0) := by
    subst hC
    exact ⟨hi.rebase _, ha.rebase _, fun a v q => .inl q, fun R q => .inl q, Nat.le_refl _, h0⟩
  have hl : C.l = l := by rw [hC]
  rw [hl] at hbody
  refine (calls_of_wpM (R := fun e w' => ∃ v Φ' σ' S', e = .returned v ∧ (YInv C Φ' σ' w' S' (some xs.length) ∨ YInv C Φ' σ' w' S' none) ∧ StepS (Φ.rebase w.heap.size) σi w S Φ' σ' w' S') hf hb (wp_mono (wpIn_wide.1 (hbody _ .wide (Φ.rebase w.heap.size) w { tmps := _, defers := [] } S hst hfr ⟨rfl, Nat.le_refl _⟩)) ?_)).mono ?_
  · rintro e a' w' ⟨f', σ', t', Φ', S', q1, q2, q3, q4, q5⟩
    have fin : (t' = some xs.length ∨ t' = none) → f'.d = [] → LeavesM P fn a'.tmps (fun e w' => ∃ v Φ' σ' S', e = .returned v ∧ (YInv C Φ' σ' w' S' (some xs.length) ∨ YInv C Φ' σ' w' S' none) ∧ StepS (Φ.rebase w.heap.size) σi w S Φ' σ' w' S') a'.defers w' := by
      intro ht hd
      rw [hd] at q3
      rcases ht with rfl | rfl
      · exact leavesY (P := P) (fn := fn) (tmps := a'.tmps) hrs (Φ0 := Φ.rebase w.heap.size) (w0 := w) rfl (fun v Φ'' w'' σ'' S'' q qs => ⟨v, Φ'', σ'', S'', rfl, .inl q, qs⟩) a'.defers Φ' w' σ' S' q3 q1 q4
      · exact leavesY (P := P) (fn := fn) (tmps := a'.tmps) hrs (Φ0 := Φ.rebase w.heap.size) (w0 := w) rfl (fun v Φ'' w'' σ'' S'' q qs => ⟨v, Φ'', σ'', S'', rfl, .inr q, qs⟩) a'.defers Φ' w' σ' S' q3 q1 q4
    cases e with
    | normal => exact ⟨.inl rfl, fin q5.2 q5.1⟩
    | ret => exact ⟨.inr rfl, fin q5.2 q5.1⟩
    | _ => exact q5.elim
  · rintro e w' ⟨v, Φ', σ', S', rfl, q, qs⟩
    subst hC
    rcases q with q | q
    · exact ⟨v, Φ'.rebase Φ.base, σ', S', rfl, q.inv.rebase _, q.apt.rebase _, qs.rebase, .inl q.st⟩
    · exact ⟨v, Φ'.rebase Φ.base, σ', S', rfl, q.inv.rebase _, q.apt.rebase _, qs.rebase, .inr q.st⟩
end Go.Proofs.YtfbodefnblpflaaGreatDoor
end

section
/- Loops over functions in functions that hand on elements themselves: the rule, with calls of the outer yield in the rounds. -/
set_option linter.unusedVariables false
set_option linter.unusedSimpArgs false
namespace Go.Proofs.YtfbodefnblpflaaGreatDoor
/-- What a step says of places and snapshots alone. -/
structure C2 (Φ0 : Phi) (σ0 : St) (n0 : Nat) (Φ : Phi) (σ : St) : Prop where
  le : Φ0.le Φ
  snapn : ∀ a v, Φ.snap a = some v → Φ0.snap a = some v ∨ n0 ≤ a.block ∨ Owned Φ0 σ0 a.block
  ownd : ∀ R, Owned Φ σ R → Owned Φ0 σ0 R ∨ n0 ≤ R
/-- The loop's own side between two rounds, and the side of the outer loop. -/
structure CStY (C : YC) (Φ0 : Phi) (σ0 : St) (n0 : Nat) (So0 : YS) (tmps : Array Value) (fc : FR) (l : Nat) (st : Loop) (σ : St) (S : YS) (Φ : Phi) (So : YS) (t : Option Nat) : Prop where
  inv : YInv C Φ σ S.w So t
  frame : FRel Φ tmps fc
  step : C2 Φ0 σ0 n0 Φ σ
  wr : ∀ k, S.wr k ↔ (Owned Φ σ k ∨ k = l ∨ So.wr k)
  sn : ∀ a, S.sn a = (match Φ.snap a with | some v => some v | none => So.sn a)
  lrec : S.w.heap[l]? = some (.loop st)
  size : n0 ≤ S.w.heap.size
  base : Φ.base ≤ S.w.heap.size
  owr : ∀ k, So.wr k → So0.wr k ∨ n0 ≤ k
  osn : ∀ a v, So.sn a = some v → So0.sn a = some v ∨ So0.wr a.block ∨ n0 ≤ a.block ∨ Φ0.snap a = some v ∨ Owned Φ0 σ0 a.block
section
variable {C : YC} {Φ0 Φ : Phi} {σ0 σ : St} {n0 : Nat} {So0 : YS} {tmps : Array Value} {fc : FR} {l : Nat} {st : Loop} {S : YS} {So : YS} {t : Option Nat}
theorem CStY.snap_sn (h : CStY C Φ0 σ0 n0 So0 tmps fc l st σ S Φ So t) {a : Addr} {v : Value} (q : Φ.snap a = some v) : S.sn a = some v := by rw [h.sn a, q]
theorem CStY.so_sn (h : CStY C Φ0 σ0 n0 So0 tmps fc l st σ S Φ So t) {a : Addr} {v : Value} (q : So.sn a = some v) : S.sn a = some v := by
  rw [h.sn a]
  cases e : Φ.snap a with
  | none => exact q
  | some u =>
    have h1 := h.inv.inv.snap a u e
    have h2 := h.inv.apt.agree.sn a v q
    rw [h1] at h2
    simpa using h2
theorem CStY.sn_cases (h : CStY C Φ0 σ0 n0 So0 tmps fc l st σ S Φ So t) {a : Addr} {v : Value} (q : S.sn a = some v) : Φ.snap a = some v ∨ So.sn a = some v := by
  rw [h.sn a] at q
  cases e : Φ.snap a with
  | none => rw [e] at q; exact .inr q
  | some u => rw [e] at q; exact .inl q
theorem CStY.agree (h : CStY C Φ0 σ0 n0 So0 tmps fc l st σ S Φ So t) : Agree S S.w :=
  ⟨fun _ _ => rfl, fun k hk => by
    rcases (h.wr k).1 hk with q | rfl | q
    · obtain ⟨l', o, p, h1, h2, h3⟩ := q
      obtain ⟨p', e, hlt⟩ := (h.inv.inv.own l' o h1).place
      rw [h2] at e; cases e
      exact hlt k h3
    · exact (Array.getElem?_eq_some_iff.1 h.lrec).1
    · exact Nat.lt_of_lt_of_le (h.inv.apt.agree.lt k q) h.inv.apt.agree.size, (fun k hk x e => by
    rcases (h.wr k).1 hk with q | rfl | q
    · exact h.inv.inv.mark e q
    · rw [h.lrec] at e; cases e
    · exact h.inv.apt.agree.nomark k q x ((h.inv.apt.agree.same k q).symm.trans e)), fun a v q => by
    rcases h.sn_cases q with q | q
    · exact h.inv.inv.snap a v q
    · exact h.inv.apt.agree.sn a v q, Nat.le_refl _, rfl, rfl, rfl, Nat.le_refl _⟩
theorem CStY.at (h : CStY C Φ0 σ0 n0 So0 tmps fc l st σ S Φ So t) (k1 : ∀ a v, Φ0.snap a = some v → C.Φ0.snap a = some v ∨ C.n0 ≤ a.block ∨ Owned C.Φ0 C.σ0 a.block) (k2 : ∀ R, Owned Φ0 σ0 R → Owned C.Φ0 C.σ0 R ∨ C.n0 ≤ R) (k3 : C.n0 ≤ n0)
    {w : World} (ha : Agree S w) {Ψ : Phi} (ho : ∀ m, Ψ.obj m = none)
    (hs : ∀ a v, Ψ.snap a = some v → w.cell? a = some v ∧ ¬ S.wr a.block ∧ (Φ0.snap a = some v ∨ n0 ≤ a.block ∨ Owned Φ0 σ0 a.block)) :
    ∃ Φ', YInv C Φ' σ w So t ∧ FRel Φ' tmps fc ∧ C2 Φ0 σ0 n0 Φ' σ ∧ (∀ k, Owned Φ' σ k ↔ Owned Φ σ k) ∧ (∀ a v, Φ'.snap a = some v → Φ.snap a = some v ∨ Ψ.snap a = some v) ∧ (∀ v m, Rel Ψ v m → Rel Φ' v m) ∧ w.heap[l]? = some (.loop st) ∧ Φ'.base ≤ w.heap.size := by
  obtain ⟨Φ', hΦ⟩ : ∃ Φ' : Phi, Φ' = { Φ with snap := fun a => match Φ.snap a with | some v => some v | none => Ψ.snap a } := ⟨_, rfl⟩
  have hle : Φ.le Φ' := by subst hΦ; exact ⟨fun a v q => by simp [q], fun _ _ q => q, rfl⟩
  have hobj : Φ'.obj = Φ.obj := by subst hΦ; rfl
  have hb : Φ'.base = Φ.base := by subst hΦ; rfl
  have hsn : ∀ a v, Φ'.snap a = some v → Φ.snap a = some v ∨ Ψ.snap a = some v := fun a v q => by
    subst hΦ
    simp only at q
    cases e : Φ.snap a with
    | none => rw [e] at q; exact .inr q
    | some u => rw [e] at q; exact .inl q
  have hwr : ∀ k, Owned Φ σ k → w.heap[k]? = S.w.heap[k]? := fun k hk => ha.same k ((h.wr k).2 (.inl hk))
  have hown : ∀ k, Owned Φ' σ k ↔ Owned Φ σ k := fun k => by unfold Owned; rw [hobj]
  have hinv : Inv Φ' w σ := by
    refine ⟨fun l' o hl => (h.inv.inv.own l' o hl).mono hle fun p R h1 h2 => hwr R ⟨l', o, p, hl, h1, h2⟩, fun a b o o' p p' R h1 h2 h3 h4 => ?_, fun a v q => ?_, fun l' o p R a v h1 h2 h3 q => ?_, ?_⟩
    · rw [hobj] at h3 h4; exact h.inv.inv.inj a b o o' p p' R h1 h2 h3 h4
    · rcases hsn a v q with q | q
      · exact ha.sn a v (h.snap_sn q)
      · exact (hs a v q).1
    · rw [hobj] at h2
      rcases hsn a v q with q | q
      · exact h.inv.inv.apart l' o p R a v h1 h2 h3 q
      · intro e
        exact (hs a v q).2.1 ((h.wr _).2 (.inl ⟨l', o, p, h1, h2, e ▸ h3⟩))
    · obtain ⟨n, hn⟩ := h.inv.inv.fresh.1
      exact ⟨⟨n, fun k hk => by rw [hobj]; exact hn k hk⟩, fun g i v q => hle.snap _ _ (h.inv.inv.fresh.2 g i v q)⟩
  have hag := h.inv.apt.agree
  have hapt : Apt Φ' σ So w := by
    refine ⟨⟨fun k hk => (ha.same k ((h.wr k).2 (.inr (.inr hk)))).trans (hag.same k hk), hag.lt, hag.nomark, fun a v q => ha.sn a v (h.so_sn q), Nat.le_trans hag.size ha.size, ha.os.trans hag.os, ha.tape.trans hag.tape, ha.output.trans hag.output, Nat.le_trans hag.drawn ha.drawn⟩, fun k hk q => h.inv.apt.own k hk ((hown k).1 q), fun a v q ho => h.inv.apt.snown a v q ((hown _).1 ho), fun a v q hk => ?_⟩
    rcases hsn a v q with q | q
    · exact h.inv.apt.snap a v q hk
    · exact (hs a v q).2.1 ((h.wr _).2 (.inr (.inr hk)))
  refine ⟨Φ', ⟨hinv, hapt, fun a v q => ?_, fun R hR => h.inv.ownd R ((hown R).1 hR), Nat.le_trans h.inv.size ha.size, h.inv.st⟩, h.frame.mono hle, ⟨h.step.le.trans hle, fun a v q => ?_, fun R hR => h.step.ownd R ((hown R).1 hR)⟩, hown, hsn, fun v m r => ?_, ?_, ?_⟩
  · rcases hsn a v q with q | q
    · exact h.inv.snapn a v q
    · rcases (hs a v q).2.2 with q | q | q
      · exact k1 a v q
      · exact .inr (.inl (Nat.le_trans k3 q))
      · rcases k2 _ q with q | q
        · exact .inr (.inr q)
        · exact .inr (.inl q)
  · rcases hsn a v q with q | q
    · exact h.step.snapn a v q
    · exact (hs a v q).2.2
  · refine r.mono2 (fun a u q => ?_) (fun l' p q => by rw [ho l'] at q; cases q)
    have h1 := (hs a u q).1
    subst hΦ
    simp only
    cases e : Φ.snap a with
    | none => exact q
    | some u' =>
      have h2 := ha.sn a u' (h.snap_sn e)
      rw [h1] at h2
      simpa using h2.symm
  · rw [ha.same l ((h.wr l).2 (.inr (.inl rfl)))]; exact h.lrec
  · rw [hb]; exact Nat.le_trans h.base ha.size
end
def onlyNY (K : FR → St → Option Nat → Prop) : YQ
  | .normal, f, σ, t => K f σ t
  | _, _, _, _ => False
def roundY (Q : YQ) (fc : FR) (nxt : St → Option Nat → Prop) : YQ
  | .normal, f, σ, t => Gh f σ fun _ σ1 => nxt σ1 t
  | .ret, f, σ, t => Gh f σ fun _ σ1 => Q .ret fc σ1 t
  | .exit id, f, σ, t => Gh f σ fun _ σ1 => Q (.exit id) fc σ1 t
  | _, _, _, _ => False
theorem C2.step {Φ0 Φ Φ' : Phi} {σ0 σ σ' : St} {n0 : Nat} {w w' : World} {S S' : YS} (h : C2 Φ0 σ0 n0 Φ σ) (hn : n0 ≤ w.heap.size) (k : StepS Φ σ w S Φ' σ' w' S') : C2 Φ0 σ0 n0 Φ' σ' where
  le := h.le.trans k.le
  snapn := fun a v hv => by
    rcases k.snapn a v hv with q | q | q
    · exact h.snapn a v q
    · exact .inr (.inl (Nat.le_trans hn q))
    · rcases h.ownd _ q with q | q
      · exact .inr (.inr q)
      · exact .inr (.inl q)
  ownd := fun R hR => by
    rcases k.ownd R hR with q | q
    · exact h.ownd R q
    · exact .inr (Nat.le_trans hn q)
/-- A block of bookkeeping turns. -/
theorem YInv.putObj {C : YC} {Φ : Phi} {σ : St} {w : World} {S : YS} {t : Option Nat} (h : YInv C Φ σ w S t) {l : Nat} {r : Loop} (o' : Obj) (hl : w.heap[l]? = some (.loop r)) (hw : ¬ S.wr l) : YInv C Φ σ (w.putObj l o') S t := by
  have hne : ∀ k, S.wr k → k ≠ l := fun k hk e => hw (e ▸ hk)
  refine ⟨h.inv.putObj _ hl (fun _ _ _ e => by cases e) (fun _ _ e => by cases e), ⟨⟨fun k hk => (World.putObj_heap_other (hne k hk)).trans (h.apt.agree.same k hk), h.apt.agree.lt, h.apt.agree.nomark, fun a v q => ?_, by rw [World.putObj_size]; exact h.apt.agree.size, h.apt.agree.os, h.apt.agree.tape, h.apt.agree.output, h.apt.agree.drawn⟩, h.apt.own, h.apt.snown, h.apt.snap⟩, h.snapn, h.ownd, by rw [World.putObj_size]; exact h.size, h.st⟩
  have hc := h.apt.agree.sn a v q
  rw [← hc]
  refine World.cell?_heap (World.putObj_heap_other fun e => ?_)
  rw [World.cell?, e, hl] at hc
  simp at hc
end Go.Proofs.YtfbodefnblpflaaGreatDoor
end

section
/- Loops over functions, for simp. -/
set_option linter.unusedVariables false
set_option linter.unusedSimpArgs false
namespace Go.Proofs.YtfbodefnblpflaaGreatDoor
section
variable {P : Program} {C : YC} {f : FR} {σ : St} {t : Option Nat} {Q : YQ} {q : MQ} {c : Code}
/-- A part of code is walked. -/
theorem mwalk (h : R (mcode P (@OfNat.ofNat Code (nat_lit 0) (@_root_.id (OfNat Code (nat_lit 0)) (OfNat.mk c))) f σ q)) : mwp P c f σ q := mcode_sound c f σ q h
theorem ywalk (h : R (mcode P (@OfNat.ofNat Code (nat_lit 0) (@_root_.id (OfNat Code (nat_lit 0)) (OfNat.mk c))) f σ (fun e f' σ' => Q e f' σ' t))) : ywp P C c f σ t Q := ywp_of (mcode_sound c f σ _ h)
theorem thenY_normal {k : FR → St → Option Nat → Prop} : R (thenY k Q .normal f σ t) = R (k f σ t) := congrArg R rfl
theorem thenY_ret {k : FR → St → Option Nat → Prop} : R (thenY k Q .ret f σ t) = R (Q .ret f σ t) := congrArg R rfl
theorem thenY_exit {k : FR → St → Option Nat → Prop} {id : Nat} : R (thenY k Q (.exit id) f σ t) = R (Q (.exit id) f σ t) := congrArg R rfl
theorem blockY_normal {id : Nat} : R (blockY id Q .normal f σ t) = R (Q .normal f σ t) := congrArg R rfl
theorem blockY_ret {id : Nat} : R (blockY id Q .ret f σ t) = R (Q .ret f σ t) := congrArg R rfl
theorem blockY_exit {id : Nat} : R (blockY id Q (.exit id) f σ t) = R (Q .normal f σ t) := congrArg R (by simp [blockY])
theorem onlyN_normal {k : FR → St → Prop} : R (onlyN k .normal f σ) = R (k f σ) := congrArg R rfl
theorem onlyNY_normal {k : FR → St → Option Nat → Prop} : R (onlyNY k .normal f σ t) = R (k f σ t) := congrArg R rfl
theorem roundQ_normal {fc : FR} {n : St → Prop} : R (roundQ q fc n .normal f σ) = R (Gh f σ fun _ σ1 => n σ1) := congrArg R rfl
theorem roundQ_ret {fc : FR} {n : St → Prop} : R (roundQ q fc n .ret f σ) = R (Gh f σ fun _ σ1 => q .ret fc σ1) := congrArg R rfl
theorem roundQ_exit {fc : FR} {n : St → Prop} {id : Nat} : R (roundQ q fc n (.exit id) f σ) = R (Gh f σ fun _ σ1 => q (.exit id) fc σ1) := congrArg R rfl
theorem roundY_normal {fc : FR} {n : St → Option Nat → Prop} : R (roundY Q fc n .normal f σ t) = R (Gh f σ fun _ σ1 => n σ1 t) := congrArg R rfl
theorem roundY_ret {fc : FR} {n : St → Option Nat → Prop} : R (roundY Q fc n .ret f σ t) = R (Gh f σ fun _ σ1 => Q .ret fc σ1 t) := congrArg R rfl
theorem roundY_exit {fc : FR} {n : St → Option Nat → Prop} {id : Nat} : R (roundY Q fc n (.exit id) f σ t) = R (Gh f σ fun _ σ1 => Q (.exit id) fc σ1 t) := congrArg R rfl
theorem retY_normal {n : Nat} : R (retY n .normal f σ t) = R (f.d = [] ∧ (t = some n ∨ t = none)) := congrArg R rfl
theorem retY_ret {n : Nat} : R (retY n .ret f σ t) = R (f.d = [] ∧ (t = some n ∨ t = none)) := congrArg R rfl
def noDef (l : List Oper) : Bool := l.all fun o => match o.op with | .defer _ => false | _ => true
theorem noDef_spec {l : List Oper} (h : noDef l = true) : ∀ o, o ∈ l → ∀ c, o.op ≠ .defer c := fun o ho c e => by
  have := List.all_eq_true.1 h o ho
  rw [e] at this
  cases this
/-- A call of yield among operations, for simp. -/
theorem ywp_yield {id : Nat} {ops : Array Oper} (pre : List Oper) (y : Oper) (post : List Oper) {o : Operand} {args : Array Operand} {ts : Array TypeId} {i : Nat} {x : List MV} (ho : ops.toList = pre ++ y :: post) (hd : (noDef pre && noDef post) = true)
    (hy : y.op = .call ⟨.value o, args, ts⟩) (hg : y.guard = none) (ht : t = some i) (hx : C.xs[i]? = some x) (hno : ∀ m, m ∈ x → NoObj m) (hspec : YSpec P C.l C.xs C.Y C.Yx C.Φ0 C.σ0 C.n0)
    (h : R (mops P (@OfNat.ofNat (Array Oper) (nat_lit 0) (@_root_.id (OfNat (Array Oper) (nat_lit 0)) (OfNat.mk ops))) (fun f1 σ1 => mval f1 o = .fn (.yield C.l) [] [] ∧ args.toList.map (mval f1) = x ∧
      mops P (@OfNat.ofNat (Array Oper) (nat_lit 0) (@_root_.id (OfNat (Array Oper) (nat_lit 0)) (OfNat.mk ops))) (fun f2 σ2 => Q .normal f2 σ2 (some (i + 1))) (@OfNat.ofNat (List Oper) (nat_lit 0) (@_root_.id (OfNat (List Oper) (nat_lit 0)) (OfNat.mk post))) (mput f1 y.dst (.bool true)) σ1 ∧
      mops P (@OfNat.ofNat (Array Oper) (nat_lit 0) (@_root_.id (OfNat (Array Oper) (nat_lit 0)) (OfNat.mk ops))) (fun f2 σ2 => Q .normal f2 σ2 none) (@OfNat.ofNat (List Oper) (nat_lit 0) (@_root_.id (OfNat (List Oper) (nat_lit 0)) (OfNat.mk post))) (mput f1 y.dst (.bool false)) σ1)
      (@OfNat.ofNat (List Oper) (nat_lit 0) (@_root_.id (OfNat (List Oper) (nat_lit 0)) (OfNat.mk pre))) f σ)) : ywp P C (.region id ops false) f σ t Q := by
  have hd := Bool.and_eq_true_iff.1 hd
  exact ywp_region pre y post ho (noDef_spec hd.1) (noDef_spec hd.2) hy hg ht hx hno hspec h
end
attribute [go_sem ↓] thenY_normal thenY_ret thenY_exit blockY_normal blockY_ret blockY_exit onlyN_normal onlyNY_normal roundQ_normal roundQ_ret roundQ_exit roundY_normal roundY_ret roundY_exit retY_normal retY_ret
end Go.Proofs.YtfbodefnblpflaaGreatDoor
end

section
/- Regions of more than 64 operations: their lists are written as parts, one behind the other. No condition but what the theorems name. -/
set_option linter.unusedVariables false
set_option linter.unusedSimpArgs false
namespace Go.Proofs.YtfbodefnblpflaaGreatDoor
section
variable {P : Program} {f : FR} {σ : St} {Q : MQ} {id : Nat} {a b l : List Oper} {x : Oper} {dr : Bool}
def mregA (P : Program) (id : Nat) (dr : Bool) (l : List Oper) (f : FR) (σ : St) (Q : MQ) : Prop := mcode P (.region id l.toArray dr) f σ Q
theorem mcode_app : R (mcode P (.region id (List.append a b).toArray dr) f σ Q) = R (mregA P id dr (E (List.append a b)) f σ Q) := congrArg R rfl
theorem mregA_go : R (mregA P id false (x :: l) f σ Q) = R (mops P (@OfNat.ofNat (Array Oper) (nat_lit 0) (@_root_.id (OfNat (Array Oper) (nat_lit 0)) (OfNat.mk ((x :: l).toArray)))) (Q .normal) (@OfNat.ofNat (List Oper) (nat_lit 0) (@_root_.id (OfNat (List Oper) (nat_lit 0)) (OfNat.mk (x :: l)))) f σ) := congrArg R rfl
theorem mregA_draw : R (mregA P id true (x :: l) f σ Q) = R (mdraw P id (@OfNat.ofNat (List Oper) (nat_lit 0) (@_root_.id (OfNat (List Oper) (nat_lit 0)) (OfNat.mk (x :: l)))) (E f) σ Q) := congrArg R rfl
theorem consO : List.append (x :: a) b = x :: List.append a b := rfl
theorem nilO : List.append ([] : List Oper) b = b := rfl
end
attribute [go_sem ↓ high] mcode_app
attribute [go_sem] mregA_go mregA_draw consO nilO
/-- A call that answers a new place. -/
theorem use_new {P : Program} {g : FuncId} {ms : List MV} {σ : St} {o : MObj} {u : Nat → MV} {k : MV → St → Prop} (h : MCalls P g ms St.none fun v σ' => ∃ l, v = u l ∧ σ' = St.none.set l o) (hk : ∀ l, σ l = none → R (mlet (u l) (σ.set l o) k)) : R (mcallE P g ms σ k) :=
  use_frame h (St.none_le σ) fun v σ' hv hf => by
    obtain ⟨l, rfl, rfl⟩ := hv
    rw [minus_none, over_set, over_none]
    refine hk l ?_
    rcases hf l o (set_hit _ _ _) with h | ⟨o', h⟩
    · exact h
    · simp [St.none] at h
end Go.Proofs.YtfbodefnblpflaaGreatDoor
end

section
/- Contracts of the program's bits and masks: the conditions that the theorems name. -/
set_option linter.unusedVariables false
set_option linter.unusedSimpArgs false
namespace Go.Proofs.YtfbodefnblpflaaGreatDoor
set_option maxRecDepth 100000
set_option maxHeartbeats 4000000
theorem wrap32' {n : Nat} (h : n < 4294967296) : IntKind.u32.wrap (n : Int) = (n : Int) := by
  simp only [IntKind.wrap, IntKind.signed, IntKind.bits]
  simp
  omega
theorem and32 (a b : Nat) (ha : a < 4294967296) (hb : b < 4294967296) : andK .u32 (a : Int) (b : Int) = ((a &&& b : Nat) : Int) := by
  have hab : a &&& b < 4294967296 := Nat.lt_of_le_of_lt Nat.and_le_left ha
  unfold andK
  have e : (BitVec.ofInt IntKind.u32.bits (a : Int) &&& BitVec.ofInt IntKind.u32.bits (b : Int)).toNat = a &&& b := by
    rw [BitVec.toNat_and]
    simp only [BitVec.ofInt_natCast, BitVec.toNat_ofNat, IntKind.bits]
    rw [Nat.mod_eq_of_lt (by omega), Nat.mod_eq_of_lt (by omega)]
  rw [e]
  exact wrap32' hab
theorem or32 (a b : Nat) (ha : a < 4294967296) (hb : b < 4294967296) : orK .u32 (a : Int) (b : Int) = ((a ||| b : Nat) : Int) := by
  have hab : a ||| b < 2 ^ 32 := Nat.or_lt_two_pow (by omega) (by omega)
  unfold orK
  have e : (BitVec.ofInt IntKind.u32.bits (a : Int) ||| BitVec.ofInt IntKind.u32.bits (b : Int)).toNat = a ||| b := by
    rw [BitVec.toNat_or]
    simp only [BitVec.ofInt_natCast, BitVec.toNat_ofNat, IntKind.bits]
    rw [Nat.mod_eq_of_lt (by omega), Nat.mod_eq_of_lt (by omega)]
  rw [e]
  exact wrap32' hab
theorem andNot32 (a b : Nat) (ha : a < 4294967296) (hb : b < 4294967296) : andNotK .u32 (a : Int) (b : Int) = ((a &&& (4294967295 - b) : Nat) : Int) := by
  have hab : a &&& (4294967295 - b) < 4294967296 := Nat.lt_of_le_of_lt Nat.and_le_left ha
  unfold andNotK
  have e : (BitVec.ofInt IntKind.u32.bits (a : Int) &&& ~~~BitVec.ofInt IntKind.u32.bits (b : Int)).toNat = a &&& (4294967295 - b) := by
    rw [BitVec.toNat_and, BitVec.toNat_not]
    simp only [BitVec.ofInt_natCast, BitVec.toNat_ofNat, IntKind.bits]
    rw [Nat.mod_eq_of_lt (by omega), Nat.mod_eq_of_lt (by omega)]
  rw [e]
  exact wrap32' hab
theorem pbit_call (n : Nat) (h : n < 32) : MCalls Tryz.prog 196 [.int .i64 (n : Int)] St.none (fun r _ => r = .int .u32 ((2 ^ n : Nat) : Int)) := by
  refine (MCalls.body 12 [.tmp 2] Tryz.func196 rfl rfl rfl rfl ?_)
  repeat' (first | (with_reducible first | (refine wT ?_; refine wN fun _ hnl => ?_; revert hnl; (repeat refine wS fun _ _ => ?_); intro hnl) | refine wD (by decide +kernel) ?_ | refine wI (fun h => ?_) fun h => ?_ | refine wF (fun h => ?_) fun h => ?_ | refine wG (fun h => ?_) fun h => ?_ | refine wH (fun h => ?_) fun h => ?_ | ((first | refine mfork_bool (fun h => ?_) fun h => ?_ | refine mgfork_bool (fun h => ?_) fun h => ?_) <;> simp only [h])) | simp (maxSteps := 4000000) (disch := first | decide | assumption | omega | (simp only [wL]; omega)) only [go_sem, simprocAttr, Tryz.f196])
  rw [Nat.min_eq_left (by omega), Int.one_mul, show (2 : Int) ^ n = ((2 ^ n : Nat) : Int) by simp]
  exact congrArg _ (wrap32' (Nat.pow_lt_pow_right (a := 2) (n := 32) (by decide) h))
theorem low9 (m : Nat) (h : m < 4294967296) : m &&& (4294967295 - 511) = 0 ↔ m ≤ 511 := by
  have e : ∀ i, (4294967295 - 511 : Nat).testBit i = (decide (9 ≤ i) && decide (i < 32)) := by
    intro i
    by_cases hi : i < 32
    · have : ∀ i, i < 32 → (4294967295 - 511 : Nat).testBit i = (decide (9 ≤ i) && decide (i < 32)) := by decide
      exact this i hi
    · rw [Nat.testBit_lt_two_pow (Nat.lt_of_lt_of_le (show 4294967295 - 511 < 2 ^ 32 by decide) (Nat.pow_le_pow_right (by decide) (by omega))), decide_eq_false hi, Bool.and_false]
  constructor
  · intro h0
    refine Classical.byContradiction fun hn => ?_
    have h1 : m / 2 ^ 9 ≠ 0 := by omega
    obtain ⟨i, hi⟩ := Nat.exists_testBit_of_ne_zero h1
    rw [Nat.testBit_div_two_pow] at hi
    have hi32 : i + 9 < 32 := by
      refine Classical.byContradiction fun hc => ?_
      rw [Nat.testBit_lt_two_pow (Nat.lt_of_lt_of_le (show m < 2 ^ 32 from h) (Nat.pow_le_pow_right (by decide) (by omega)))] at hi
      cases hi
    have h2 := congrArg (fun x => Nat.testBit x (i + 9)) h0
    simp only [Nat.testBit_and, Nat.zero_testBit, e, hi] at h2
    rw [decide_eq_true (by omega), decide_eq_true hi32] at h2
    cases h2
  · intro hm
    refine Nat.eq_of_testBit_eq fun i => ?_
    rw [Nat.testBit_and, Nat.zero_testBit, e]
    by_cases hi : 9 ≤ i
    · rw [Nat.testBit_lt_two_pow (Nat.lt_of_lt_of_le (show m < 2 ^ 9 by omega) (Nat.pow_le_pow_right (by decide) hi)), Bool.false_and]
    · rw [decide_eq_false hi, Bool.false_and, Bool.and_false]
theorem pmcheck_call (m : UInt32) : MCalls Tryz.prog 102 [.int .u32 (m.toNat : Int)] St.none (fun r _ => r = .bool (decide (m.toNat ≤ 511))) := by
  refine (MCalls.body 5 [.tmp 2] Tryz.func102 rfl rfl rfl rfl ?_)
  have hm := m.toNat_lt
  have h : MCalls Tryz.prog 157 [.int .u32 (m.toNat : Int), .int .u32 511] St.none (fun r _ => r = .bool (decide (m.toNat ≤ 511))) := by
    refine (MCalls.body 9 [.tmp 4] Tryz.func157 rfl rfl rfl rfl ?_)
    have e : andNotK .u32 (m.toNat : Int) 511 = _ := andNot32 m.toNat 511 hm (by decide)
    repeat' (first | (with_reducible first | (refine wT ?_; refine wN fun _ hnl => ?_; revert hnl; (repeat refine wS fun _ _ => ?_); intro hnl) | refine wD (by decide +kernel) ?_ | refine wI (fun h => ?_) fun h => ?_ | refine wF (fun h => ?_) fun h => ?_ | refine wG (fun h => ?_) fun h => ?_ | refine wH (fun h => ?_) fun h => ?_ | ((first | refine mfork_bool (fun h => ?_) fun h => ?_ | refine mgfork_bool (fun h => ?_) fun h => ?_) <;> simp only [h])) | simp (maxSteps := 4000000) (disch := first | decide | assumption | omega | (simp only [wL]; omega)) only [go_sem, simprocAttr, Tryz.f157, e])
    exact decide_eq_decide.mpr ⟨fun h => (low9 m.toNat hm).1 (by exact_mod_cast h), fun h => by rw [(low9 m.toNat hm).2 h]; rfl⟩
  repeat' (first | (with_reducible first | refine up h ?_) | (with_reducible first | (refine wT ?_; refine wN fun _ hnl => ?_; revert hnl; (repeat refine wS fun _ _ => ?_); intro hnl) | refine wD (by decide +kernel) ?_ | refine wI (fun h => ?_) fun h => ?_ | refine wF (fun h => ?_) fun h => ?_ | refine wG (fun h => ?_) fun h => ?_ | refine wH (fun h => ?_) fun h => ?_ | ((first | refine mfork_bool (fun h => ?_) fun h => ?_ | refine mgfork_bool (fun h => ?_) fun h => ?_) <;> simp only [h])) | simp (maxSteps := 4000000) (disch := first | decide | assumption | omega | (simp only [wL]; omega)) only [go_sem, simprocAttr, Tryz.f102])
theorem and_pow (m k : Nat) : m &&& 2 ^ k = if m.testBit k = true then 2 ^ k else 0 := by
  refine Nat.eq_of_testBit_eq fun i => ?_
  rw [Nat.testBit_and, Nat.testBit_two_pow]
  by_cases h : k = i
  · subst h
    cases hb : m.testBit k
    · simp
    · simp [Nat.testBit_two_pow]
  · cases m.testBit k
    · simp [h]
    · simp [h, Nat.testBit_two_pow]
theorem pmlab_call (m : UInt32) : MCalls Tryz.prog 150 [.int .u32 (m.toNat : Int)] St.none (fun r _ => r = .bool (bit m.toNat 8)) := by
  refine (MCalls.body 6 [.tmp 2] Tryz.func150 rfl rfl rfl rfl ?_)
  have hm := m.toNat_lt
  have e : andK .u32 (m.toNat : Int) 256 = _ := and32 m.toNat 256 hm (by decide)
  repeat' (first | (with_reducible first | (refine wT ?_; refine wN fun _ hnl => ?_; revert hnl; (repeat refine wS fun _ _ => ?_); intro hnl) | refine wD (by decide +kernel) ?_ | refine wI (fun h => ?_) fun h => ?_ | refine wF (fun h => ?_) fun h => ?_ | refine wG (fun h => ?_) fun h => ?_ | refine wH (fun h => ?_) fun h => ?_ | ((first | refine mfork_bool (fun h => ?_) fun h => ?_ | refine mgfork_bool (fun h => ?_) fun h => ?_) <;> simp only [h])) | simp (maxSteps := 4000000) (disch := first | decide | assumption | omega | (simp only [wL]; omega)) only [go_sem, simprocAttr, Tryz.f150, e])
  rw [show (256 : Nat) = 2 ^ 8 by decide, and_pow]
  unfold bit
  cases m.toNat.testBit 8 <;> rfl
theorem pof_call (L : List Nat) (hL : ∀ i, i ∈ L → i < 32) (t : Bool) (hl : L.length ≤ 1000000) : MCalls Tryz.prog 188 [.lst 1 (L.map fun (i : Nat) => [.int .i64 (i : Int)]) t] St.none (fun r _ => r = .int .u32 ((L.foldl (fun s n => s ||| 2 ^ n) 0 : Nat) : Int)) := by
  refine (MCalls.body 18 [.tmp 2] Tryz.func188 rfl rfl rfl rfl ?_)
  repeat' (first | (with_reducible first | (refine wT ?_; refine wN fun _ hnl => ?_; revert hnl; (repeat refine wS fun _ _ => ?_); intro hnl) | refine wD (by decide +kernel) ?_ | refine wI (fun h => ?_) fun h => ?_ | refine wF (fun h => ?_) fun h => ?_ | refine wG (fun h => ?_) fun h => ?_ | refine wH (fun h => ?_) fun h => ?_ | ((first | refine mfork_bool (fun h => ?_) fun h => ?_ | refine mgfork_bool (fun h => ?_) fun h => ?_) <;> simp only [h])) | simp (maxSteps := 4000000) (disch := first | decide | assumption | omega | (simp only [wL]; omega)) only [go_sem, simprocAttr, Tryz.f188])
  refine mloop_intro (α := Nat) (fun k => ⟨18, [(8, .int .i64 (k : Int)), (7, .int .i64 (L.length : Int)), (6, .lst 1 (L.map fun (i : Nat) => [.int .i64 (i : Int)]) t), (3, .int .u32 (((L.take k).foldl (fun s n => s ||| 2 ^ n) 0 : Nat) : Int))], []⟩) (fun _ => St.none)
    (fun k => k ≤ L.length ∧ (L.take k).foldl (fun s n => s ||| 2 ^ n) 0 < 4294967296) (fun k => L.length - k) (.of (.less ?_ (St.le_refl _)) ⟨0, rfl, rfl, Nat.zero_le _, by simp⟩) ?_
  · simp (maxSteps := 4000000) (disch := first | decide | assumption | omega | (simp only [wL]; omega)) only [go_sem, simprocAttr, weak_int, weak_same]
    all_goals rfl
  · rintro k ⟨hk, hlt⟩
    by_cases hkl : k < L.length
    · have hb := pbit_call (L.getD k 0) (hL _ (getD_mem 0 hkl))
      have hp : 2 ^ L.getD k 0 < 4294967296 := Nat.pow_lt_pow_right (a := 2) (n := 32) (by decide) (hL _ (getD_mem 0 hkl))
      have hs : (L.take (k + 1)).foldl (fun s n => s ||| 2 ^ n) 0 = (L.take k).foldl (fun s n => s ||| 2 ^ n) 0 ||| 2 ^ L.getD k 0 := by
        rw [List.take_succ_eq_append_getElem hkl, ors_snoc, getD_of_lt 0 hkl]
      have ho := or32 ((L.take k).foldl (fun s n => s ||| 2 ^ n) 0) (2 ^ L.getD k 0) hlt hp
      obtain ⟨s, hse⟩ : ∃ s, (L.take k).foldl (fun s n => s ||| 2 ^ n) 0 = s := ⟨_, rfl⟩
      obtain ⟨x, hx⟩ : ∃ x, L.getD k 0 = x := ⟨_, rfl⟩
      rw [hse] at hs ho hlt ⊢
      rw [hx] at hs ho hb hp
      obtain ⟨p, hpe⟩ : ∃ p, 2 ^ x = p := ⟨_, rfl⟩
      rw [hpe] at hs ho hb hp
      repeat' (first | (with_reducible first | refine up hb ?_) | (with_reducible first | (refine wT ?_; refine wN fun _ hnl => ?_; revert hnl; (repeat refine wS fun _ _ => ?_); intro hnl) | refine wD (by decide +kernel) ?_ | refine wI (fun h => ?_) fun h => ?_ | refine wF (fun h => ?_) fun h => ?_ | refine wG (fun h => ?_) fun h => ?_ | refine wH (fun h => ?_) fun h => ?_ | ((first | refine mfork_bool (fun h => ?_) fun h => ?_ | refine mgfork_bool (fun h => ?_) fun h => ?_) <;> simp only [h])) | simp (maxSteps := 4000000) (disch := first | decide | assumption | omega | (simp only [wL]; omega)) only [go_sem, simprocAttr, getD_mapd (0 : Nat), hx, ho])
      refine .of (.less (l1 := [(8, .int .i64 ((k + 1 : Nat) : Int)), (7, .int .i64 (L.length : Int)), (6, .lst 1 (L.map fun (i : Nat) => [.int .i64 (i : Int)]) t), (3, .int .u32 (((L.take (k + 1)).foldl (fun s n => s ||| 2 ^ n) 0 : Nat) : Int))]) ?_ (St.le_refl _)) ⟨k + 1, rfl, rfl, ⟨by omega, by rw [hs]; exact Nat.or_lt_two_pow (n := 32) (by omega) (by omega)⟩, by omega⟩
      rw [hs]
      simp (maxSteps := 4000000) (disch := first | decide | assumption | omega | (simp only [wL]; omega)) only [go_sem, simprocAttr, weak_int, weak_same]
      all_goals rfl
    · have : k = L.length := by omega
      subst this
      rw [List.take_length] at hlt ⊢
      repeat' (first | (with_reducible first | (refine wT ?_; refine wN fun _ hnl => ?_; revert hnl; (repeat refine wS fun _ _ => ?_); intro hnl) | refine wD (by decide +kernel) ?_ | refine wI (fun h => ?_) fun h => ?_ | refine wF (fun h => ?_) fun h => ?_ | refine wG (fun h => ?_) fun h => ?_ | refine wH (fun h => ?_) fun h => ?_ | ((first | refine mfork_bool (fun h => ?_) fun h => ?_ | refine mgfork_bool (fun h => ?_) fun h => ?_) <;> simp only [h])) | simp (maxSteps := 4000000) (disch := first | decide | assumption | omega | (simp only [wL]; omega)) only [go_sem, simprocAttr])
theorem pmake_call (L : List Nat) (hL : ∀ i, i ∈ L → i < 8) (t : Bool) (hl : L.length ≤ 1000000) (hs : L.foldl (fun s n => s ||| 2 ^ n) 0 < 256) : MCalls Tryz.prog 166 [.bool false, .lst 1 (L.map fun (i : Nat) => [.int .i64 (i : Int)]) t] St.none (fun r _ => r = .int .u32 ((L.foldl (fun s n => s ||| 2 ^ n) 0 : Nat) : Int)) := by
  refine (MCalls.body 13 [.tmp 4] Tryz.func166 rfl rfl rfl rfl ?_)
  have h := pof_call L (fun i hi => Nat.lt_of_lt_of_le (hL i hi) (by decide)) t hl
  obtain ⟨s, hse⟩ : ∃ s, L.foldl (fun s n => s ||| 2 ^ n) 0 = s := ⟨_, rfl⟩
  rw [hse] at h hs ⊢
  have ha : andK .u32 (s : Int) 255 = _ := and32 s 255 (by omega) (by decide)
  have he : s &&& 255 = s := by
    rw [show (255 : Nat) = 2 ^ 8 - 1 by decide, Nat.and_two_pow_sub_one_eq_mod]
    exact Nat.mod_eq_of_lt hs
  rw [he] at ha
  repeat' (first | (with_reducible first | refine up h ?_) | (with_reducible first | (refine wT ?_; refine wN fun _ hnl => ?_; revert hnl; (repeat refine wS fun _ _ => ?_); intro hnl) | refine wD (by decide +kernel) ?_ | refine wI (fun h => ?_) fun h => ?_ | refine wF (fun h => ?_) fun h => ?_ | refine wG (fun h => ?_) fun h => ?_ | refine wH (fun h => ?_) fun h => ?_ | ((first | refine mfork_bool (fun h => ?_) fun h => ?_ | refine mgfork_bool (fun h => ?_) fun h => ?_) <;> simp only [h])) | simp (maxSteps := 4000000) (disch := first | decide | assumption | omega | (simp only [wL]; omega)) only [go_sem, simprocAttr, Tryz.f166, ha])
def dbT : List Int := [0, 1, 28, 2, 29, 14, 24, 3, 30, 22, 20, 15, 25, 17, 4, 8, 31, 27, 13, 23, 21, 19, 16, 7, 26, 12, 18, 6, 11, 5, 10, 9]
def tzI (x : Nat) : Int := (IntKind.u32.wrap (andK IntKind.u32 (x : Int) (IntKind.u32.wrap (0 - (x : Int))) * 125613361)).fdiv (2 ^ min 27 32)
theorem tz_tab : ∀ x : Nat, x < 256 → x ≠ 0 → 0 ≤ tzI x ∧ tzI x < 32 ∧ dbT[(tzI x).toNat]? = some (((bitsL x).headD 0 : Nat) : Int) := by decide +kernel
theorem GT_tz (i : Nat) : GT 0 i = (dbT[i]?).map (Value.int .u8) := by
  unfold GT
  rw [if_pos rfl, List.getElem?_map]; rfl
theorem R_mpure {C : Prop} {v : MV} {σ : St} {k : MV → St → Prop} (hC : C) (hk : R (k v σ)) : R (mpure σ k (some (C, v))) := ⟨hC, hk⟩
theorem gidx_tz (x : Nat) (h : x < 256) (h0 : x ≠ 0) : gidx Tryz.prog 211 0 (.int .u32 (tzI x)) = some ((td Tryz.prog 5).ok = true ∧ (td Tryz.prog 5).size = 1 ∧ 0 ≤ tzI x ∧ tzI x < 32 ∧ (ofV (.int .u8 (((bitsL x).headD 0 : Nat) : Int))).isCell = true, .cptr [.int .u8 (((bitsL x).headD 0 : Nat) : Int)]) := by
  unfold gidx
  rw [td211]
  simp only
  rw [GT_tz, (tz_tab x h h0).2.2]
  rfl
theorem headD_lt {x : Nat} (h : x < 256) (h0 : x ≠ 0) : (bitsL x).headD 0 < 8 := by
  rw [bits_low x h h0]
  have : (bitsL x).headD 0 ∈ bitsL x := by
    have := bits_low x h h0
    rw [this]; simp
  simpa using bitsL_lt this
theorem ptz_call (x : Nat) (h0 : 0 < x) (h : x < 256) : MCalls Tryz.prog 193 [.int .u32 (x : Int)] St.none (fun r _ => r = .int .i64 (((bitsL x).headD 0 : Nat) : Int)) := by
  refine (MCalls.body 14 [.tmp 2] Tryz.func193 rfl rfl rfl rfl ?_)
  have hg := gidx_tz x h (by omega)
  have ht := tz_tab x h (by omega)
  have hh := headD_lt h (by omega)
  obtain ⟨d, hd⟩ : ∃ d, (bitsL x).headD 0 = d := ⟨_, rfl⟩
  rw [hd] at hg ht hh ⊢
  repeat' (first | (with_reducible first | (refine wT ?_; refine wN fun _ hnl => ?_; revert hnl; (repeat refine wS fun _ _ => ?_); intro hnl) | refine wD (by decide +kernel) ?_ | refine wI (fun h => ?_) fun h => ?_ | refine wF (fun h => ?_) fun h => ?_ | refine wG (fun h => ?_) fun h => ?_ | refine wH (fun h => ?_) fun h => ?_ | ((first | refine mfork_bool (fun h => ?_) fun h => ?_ | refine mgfork_bool (fun h => ?_) fun h => ?_) <;> simp only [h])) | simp (maxSteps := 4000000) (disch := first | decide | assumption | omega | (simp only [wL]; omega)) only [go_sem, simprocAttr, Tryz.f193])
  change R (mpure _ _ (gidx _ _ _ (.int .u32 (tzI x))))
  rw [hg]
  refine R_mpure ⟨by rw [td5], by rw [td5], ht.1, ht.2.1, rfl⟩ ?_
  generalize tzI x = w
  repeat' (first | (with_reducible first | (refine wT ?_; refine wN fun _ hnl => ?_; revert hnl; (repeat refine wS fun _ _ => ?_); intro hnl) | refine wD (by decide +kernel) ?_ | refine wI (fun h => ?_) fun h => ?_ | refine wF (fun h => ?_) fun h => ?_ | refine wG (fun h => ?_) fun h => ?_ | refine wH (fun h => ?_) fun h => ?_ | ((first | refine mfork_bool (fun h => ?_) fun h => ?_ | refine mgfork_bool (fun h => ?_) fun h => ?_) <;> simp only [h])) | simp (maxSteps := 4000000) (disch := first | decide | assumption | omega | (simp only [wL]; omega)) only [go_sem, simprocAttr])
end Go.Proofs.YtfbodefnblpflaaGreatDoor
end

section
/- Contracts of the program's own functions for values and filters, and of the library's that they call: the conditions that each theorem names. -/
set_option linter.unusedVariables false
set_option linter.unusedSimpArgs false
namespace Go.Proofs.YtfbodefnblpflaaGreatDoor
theorem parts_call (op : Int) : MCalls Tryz.prog 177 [.int .i64 op] St.none (fun r _ => r = .int .i64 (parts op)) := by
  refine (MCalls.body 9 [.tmp 2] Tryz.func177 rfl rfl rfl rfl ?_)
  repeat' (first | (with_reducible first | (refine wN fun nl hnl => ?_; revert hnl; (repeat refine wS fun _ _ => ?_); intro hnl) | refine wD (by decide +kernel) ?_ | refine wI (fun h => ?_) fun h => ?_ | refine wF (fun h => ?_) fun h => ?_ | refine wG (fun h => ?_) fun h => ?_ | refine wH (fun h => ?_) fun h => ?_ | ((first | refine mfork_bool (fun h => ?_) fun h => ?_ | refine mgfork_bool (fun h => ?_) fun h => ?_) <;> simp only [h])) | simp (maxSteps := 4000000) (disch := first | decide | assumption | omega | (simp only [wL]; omega)) only [go_sem, simprocAttr, Tryz.f177])
  all_goals simp [parts, *]
theorem vcheck_call (kd n : Int) (s : ByteArray) : MCalls Tryz.prog 151 [.agg [.int .i64 kd, .int .i64 n, .str s]] St.none (fun r _ => r = .bool (vaOk ⟨kd, n, s⟩)) := by
  refine (MCalls.body 36 [.tmp 2] Tryz.func151 rfl rfl rfl rfl ?_)
  repeat' (first | (with_reducible first | (refine wN fun nl hnl => ?_; revert hnl; (repeat refine wS fun _ _ => ?_); intro hnl) | refine wD (by decide +kernel) ?_ | refine wI (fun h => ?_) fun h => ?_ | refine wF (fun h => ?_) fun h => ?_ | refine wG (fun h => ?_) fun h => ?_ | refine wH (fun h => ?_) fun h => ?_ | ((first | refine mfork_bool (fun h => ?_) fun h => ?_ | refine mgfork_bool (fun h => ?_) fun h => ?_) <;> simp only [h])) | simp (maxSteps := 4000000) (disch := first | decide | assumption | omega | (simp only [wL]; omega)) only [go_sem, simprocAttr, Tryz.f151])
  all_goals first
    | (simp [vaOk, va0, *]; done)
    | (simp [vaOk, va0, *]; omega)
theorem nanint_call (a : Int) : MCalls Tryz.prog 172 [.int .i64 a] St.none (fun r _ => r = .bool false) := by
  refine (MCalls.body 6 [.tmp 2] Tryz.func172 rfl rfl rfl rfl ?_)
  repeat' (first | (with_reducible first | (refine wN fun nl hnl => ?_; revert hnl; (repeat refine wS fun _ _ => ?_); intro hnl) | refine wD (by decide +kernel) ?_ | refine wI (fun h => ?_) fun h => ?_ | refine wF (fun h => ?_) fun h => ?_ | refine wG (fun h => ?_) fun h => ?_ | refine wH (fun h => ?_) fun h => ?_ | ((first | refine mfork_bool (fun h => ?_) fun h => ?_ | refine mgfork_bool (fun h => ?_) fun h => ?_) <;> simp only [h])) | simp (maxSteps := 4000000) (disch := first | decide | assumption | omega | (simp only [wL]; omega)) only [go_sem, simprocAttr, Tryz.f172, dec_not_self])
theorem nanstr_call (a : ByteArray) : MCalls Tryz.prog 189 [.str a] St.none (fun r _ => r = .bool false) := by
  refine (MCalls.body 6 [.tmp 2] Tryz.func189 rfl rfl rfl rfl ?_)
  repeat' (first | (with_reducible first | (refine wN fun nl hnl => ?_; revert hnl; (repeat refine wS fun _ _ => ?_); intro hnl) | refine wD (by decide +kernel) ?_ | refine wI (fun h => ?_) fun h => ?_ | refine wF (fun h => ?_) fun h => ?_ | refine wG (fun h => ?_) fun h => ?_ | refine wH (fun h => ?_) fun h => ?_ | ((first | refine mfork_bool (fun h => ?_) fun h => ?_ | refine mgfork_bool (fun h => ?_) fun h => ?_) <;> simp only [h])) | simp (maxSteps := 4000000) (disch := first | decide | assumption | omega | (simp only [wL]; omega)) only [go_sem, simprocAttr, Tryz.f189, dec_not_self])
theorem cmpint_call (a b : Int) : MCalls Tryz.prog 142 [.int .i64 a, .int .i64 b] St.none (fun r _ => r = .int .i64 (ordI (cmpL [a] [b]))) := by
  refine (MCalls.body 20 [.tmp 4] Tryz.func142 rfl rfl rfl rfl ?_)
  repeat' (first | (with_reducible refine use_pure (nanint_call _) ?_) | (with_reducible first | (refine wN fun nl hnl => ?_; revert hnl; (repeat refine wS fun _ _ => ?_); intro hnl) | refine wD (by decide +kernel) ?_ | refine wI (fun h => ?_) fun h => ?_ | refine wF (fun h => ?_) fun h => ?_ | refine wG (fun h => ?_) fun h => ?_ | refine wH (fun h => ?_) fun h => ?_ | ((first | refine mfork_bool (fun h => ?_) fun h => ?_ | refine mgfork_bool (fun h => ?_) fun h => ?_) <;> simp only [h])) | simp (maxSteps := 4000000) (disch := first | decide | assumption | omega | (simp only [wL]; omega)) only [go_sem, simprocAttr, Tryz.f142])
  all_goals simp [cmpL, ordI, *]
theorem cmpstr_call (a b : ByteArray) : MCalls Tryz.prog 173 [.str a, .str b] St.none (fun r _ => r = .int .i64 (ordI (cmpL (bk a) (bk b)))) := by
  refine (MCalls.body 20 [.tmp 4] Tryz.func173 rfl rfl rfl rfl ?_)
  have hb := bytesLess_cmp a.toList b.toList
  change _ = decide (cmpL (bk a) (bk b) = .lt) at hb
  repeat' (first | (with_reducible refine use_pure (nanstr_call _) ?_) | (with_reducible first | (refine wN fun nl hnl => ?_; revert hnl; (repeat refine wS fun _ _ => ?_); intro hnl) | refine wD (by decide +kernel) ?_ | refine wI (fun h => ?_) fun h => ?_ | refine wF (fun h => ?_) fun h => ?_ | refine wG (fun h => ?_) fun h => ?_ | refine wH (fun h => ?_) fun h => ?_ | ((first | refine mfork_bool (fun h => ?_) fun h => ?_ | refine mgfork_bool (fun h => ?_) fun h => ?_) <;> simp only [h])) | simp (maxSteps := 4000000) (disch := first | decide | assumption | omega | (simp only [wL]; omega)) only [go_sem, simprocAttr, Tryz.f173])
  · rw [hb] at h
    simp only [decide_eq_true_eq] at h
    rw [h]; rfl
  · rename_i h0
    rw [hb] at h0
    simp only [decide_eq_false_iff_not] at h0
    simp only [Bool.not_eq_true', Bool.or_eq_false_iff, decide_eq_false_iff_not] at h
    have h1 : cmpL (bk a) (bk b) ≠ .eq := fun e => h.2 (bytes_inj (cmpL_eq.1 e))
    cases e : cmpL (bk a) (bk b)
    · exact absurd e h0
    · exact absurd e h1
    · rfl
  · rename_i h0
    simp only [h0, Bool.false_or, Bool.not_eq_false', decide_eq_true_eq] at h
    rw [h, cmpL_refl]; rfl
theorem endS_in {l : List ND} {i : Int} (h : ¬ (i < 0 ∨ (l.length : Int) ≤ i)) : endS l i = match endN 1 (l.drop i.toNat) with
    | none => -1
    | some k => i + k := by
  unfold endS
  rw [if_neg (by omega)]
  cases endN 1 (l.drop i.toNat) <;> rfl
theorem pend_call (l : List ND) (hl : l.length ≤ 1000000) (t : Bool) (i : Int) : MCalls Tryz.prog 152 [.lst 5 (l.map ND.c) t, .int .i64 i] St.none (fun r _ => r = .int .i64 (endS l i)) := by
  refine (MCalls.body 38 [.tmp 4] Tryz.func152 rfl rfl rfl rfl ?_)
  by_cases hi : i < 0 ∨ (l.length : Int) ≤ i
  · have he : endS l i = -1 := by
      unfold endS
      by_cases h0 : i < 0
      · rw [if_pos h0]
      · rw [if_neg h0, List.drop_eq_nil_of_le (by omega)]; rfl
    rw [he]
    repeat' (first | (with_reducible first | (refine wN fun nl hnl => ?_; revert hnl; (repeat refine wS fun _ _ => ?_); intro hnl) | refine wD (by decide +kernel) ?_ | refine wI (fun h => ?_) fun h => ?_ | refine wF (fun h => ?_) fun h => ?_ | refine wG (fun h => ?_) fun h => ?_ | refine wH (fun h => ?_) fun h => ?_ | ((first | refine mfork_bool (fun h => ?_) fun h => ?_ | refine mgfork_bool (fun h => ?_) fun h => ?_) <;> simp only [h])) | simp (maxSteps := 4000000) (disch := first | decide | assumption | omega | (simp only [wL]; omega)) only [go_sem, simprocAttr, Tryz.f152])
  · obtain ⟨m, hm⟩ : ∃ m, l.drop i.toNat = m := ⟨_, rfl⟩
    have hml : l.length - i.toNat = m.length := by rw [← hm]; simp
    have hm0 : m.length ≤ 1000000 := by omega
    have hb : i + m.length ≤ 1000000 := by omega
    have h0 : 0 ≤ i := by omega
    rw [endS_in hi, hm]
    repeat' (first | (with_reducible first | (refine wN fun nl hnl => ?_; revert hnl; (repeat refine wS fun _ _ => ?_); intro hnl) | refine wD (by decide +kernel) ?_ | refine wI (fun h => ?_) fun h => ?_ | refine wF (fun h => ?_) fun h => ?_ | refine wG (fun h => ?_) fun h => ?_ | refine wH (fun h => ?_) fun h => ?_ | ((first | refine mfork_bool (fun h => ?_) fun h => ?_ | refine mgfork_bool (fun h => ?_) fun h => ?_) <;> simp only [h])) | simp (maxSteps := 4000000) (disch := first | decide | assumption | omega | (simp only [wL]; omega)) only [go_sem, simprocAttr, Tryz.f152, hm, hml])
    refine mloop_intro (α := Nat × Nat) (fun a => ⟨38, [(20, .int .i64 (a.1 : Int)), (19, .int .i64 (m.length : Int)), (18, .lst 5 (m.map ND.c) t), (5, .int .i64 (a.2 : Int)), (1, .int .i64 i)], []⟩) (fun _ => St.none)
      (fun a => a.1 ≤ m.length ∧ 1 ≤ a.2 ∧ a.2 ≤ 1 + a.1 ∧ endN 1 m = (endN a.2 (m.drop a.1)).map (· + a.1)) (fun a => m.length - a.1) (.of (.less ?_ (St.le_refl _)) ⟨(0, 1), rfl, rfl, by simp⟩) ?_
    · simp (maxSteps := 4000000) (disch := first | decide | assumption | omega | (simp only [wL]; omega)) only [go_sem, simprocAttr, weak_int, weak_same]
      all_goals omega
    · rintro ⟨k, n⟩ ⟨h1, h2, h3, h4⟩
      simp only at h1 h2 h3 h4 ⊢
      obtain ⟨q, rfl⟩ : ∃ q, n = q + 1 := ⟨n - 1, by omega⟩
      by_cases hk : k < m.length
      · have hp := parts_cases (m.getD k nd0).op
        rw [endN_step hk] at h4
        obtain ⟨pp, hpp⟩ : ∃ pp : Nat, parts (m.getD k nd0).op = pp := ⟨_, rfl⟩
        rw [hpp] at h4 hp
        by_cases hz : q + pp = 0
        · rw [hz] at h4
          have hq : q = 0 := by omega
          have hpz : pp = 0 := by omega
          subst hq
          rw [hpz] at hpp
          repeat' (first | (with_reducible refine use_pure (parts_call _) ?_) | (with_reducible first | (refine wN fun nl hnl => ?_; revert hnl; (repeat refine wS fun _ _ => ?_); intro hnl) | refine wD (by decide +kernel) ?_ | refine wI (fun h => ?_) fun h => ?_ | refine wF (fun h => ?_) fun h => ?_ | refine wG (fun h => ?_) fun h => ?_ | refine wH (fun h => ?_) fun h => ?_ | ((first | refine mfork_bool (fun h => ?_) fun h => ?_ | refine mgfork_bool (fun h => ?_) fun h => ?_) <;> simp only [h])) | simp (maxSteps := 4000000) (disch := first | decide | assumption | omega | (simp only [wL]; omega)) only [go_sem, simprocAttr, getD_mapd nd0, hpp])
          rw [h4]
          simp only [endN, Option.map_some, MV.int.injEq, true_and]
          have e1 : ((0 + 1 + k : Nat) : Int) = (k : Int) + 1 := by omega
          rw [e1, Int.add_assoc]
        · repeat' (first | (with_reducible refine use_pure (parts_call _) ?_) | (with_reducible first | (refine wN fun nl hnl => ?_; revert hnl; (repeat refine wS fun _ _ => ?_); intro hnl) | refine wD (by decide +kernel) ?_ | refine wI (fun h => ?_) fun h => ?_ | refine wF (fun h => ?_) fun h => ?_ | refine wG (fun h => ?_) fun h => ?_ | refine wH (fun h => ?_) fun h => ?_ | ((first | refine mfork_bool (fun h => ?_) fun h => ?_ | refine mgfork_bool (fun h => ?_) fun h => ?_) <;> simp only [h])) | simp (maxSteps := 4000000) (disch := first | decide | assumption | omega | (simp only [wL]; omega)) only [go_sem, simprocAttr, getD_mapd nd0, hpp])
          refine .of (.less (l1 := [(20, .int .i64 ((k + 1 : Nat) : Int)), (19, .int .i64 (m.length : Int)), (18, .lst 5 (m.map ND.c) t), (5, .int .i64 ((q + pp : Nat) : Int)), (1, .int .i64 i)]) ?_ (St.none_le _)) ⟨(k + 1, q + pp), rfl, rfl, ⟨by simp only; omega, by simp only; omega, by simp only; omega, ?_⟩, by simp only; omega⟩
          · simp (maxSteps := 4000000) (disch := first | decide | assumption | omega | (simp only [wL]; omega)) only [go_sem, simprocAttr, weak_int, weak_same]
            all_goals omega
          · rw [h4]
            simp only [Option.map_map]
            congr 1
            funext k
            simp only [Function.comp]
            omega
      · rw [List.drop_eq_nil_of_le (by omega)] at h4
        rw [h4]
        repeat' (first | (with_reducible first | (refine wN fun nl hnl => ?_; revert hnl; (repeat refine wS fun _ _ => ?_); intro hnl) | refine wD (by decide +kernel) ?_ | refine wI (fun h => ?_) fun h => ?_ | refine wF (fun h => ?_) fun h => ?_ | refine wG (fun h => ?_) fun h => ?_ | refine wH (fun h => ?_) fun h => ?_ | ((first | refine mfork_bool (fun h => ?_) fun h => ?_ | refine mgfork_bool (fun h => ?_) fun h => ?_) <;> simp only [h])) | simp (maxSteps := 4000000) (disch := first | decide | assumption | omega | (simp only [wL]; omega)) only [go_sem, simprocAttr, getD_mapd nd0])
        rfl
theorem index_call (p : ND → Bool) (g : FuncId) (l : List ND) (hl : l.length ≤ 1000000) (t : Bool) (hg : ∀ x, x ∈ l → MCalls Tryz.prog g [.agg x.c] St.none (fun r _ => r = .bool (p x))) :
    MCalls Tryz.prog 178 [.lst 5 (l.map ND.c) t, .fn (.func g) [] []] St.none (fun r _ => r = .int .i64 (if l.any p then (l.findIdx p : Int) else -1)) := by
  refine (MCalls.body 19 [.tmp 4] Tryz.func178 rfl rfl rfl rfl ?_)
  repeat' (first | (with_reducible first | (refine wN fun nl hnl => ?_; revert hnl; (repeat refine wS fun _ _ => ?_); intro hnl) | refine wD (by decide +kernel) ?_ | refine wI (fun h => ?_) fun h => ?_ | refine wF (fun h => ?_) fun h => ?_ | refine wG (fun h => ?_) fun h => ?_ | refine wH (fun h => ?_) fun h => ?_ | ((first | refine mfork_bool (fun h => ?_) fun h => ?_ | refine mgfork_bool (fun h => ?_) fun h => ?_) <;> simp only [h])) | simp (maxSteps := 4000000) (disch := first | decide | assumption | omega | (simp only [wL]; omega)) only [go_sem, simprocAttr, Tryz.f178])
  refine mloop_intro (α := Nat) (fun k => ⟨19, [(8, .int .i64 (k : Int)), (7, .int .i64 (l.length : Int)), (6, .lst 5 (l.map ND.c) t), (0, .lst 5 (l.map ND.c) t), (1, .fn (.func g) [] [])], []⟩) (fun _ => St.none)
    (fun k => k ≤ l.length ∧ (l.take k).any p = false) (fun k => l.length - k) (.of (.less ?_ (St.le_refl _)) ⟨0, rfl, rfl, by simp⟩) ?_
  · simp (maxSteps := 4000000) (disch := first | decide | assumption | omega | (simp only [wL]; omega)) only [go_sem, simprocAttr, weak_int, weak_same]
    all_goals rfl
  · rintro k ⟨h1, h2⟩
    by_cases hk : k < l.length
    · have hgk := hg _ (getD_mem nd0 hk)
      cases hp : p (l.getD k nd0)
      · rw [hp] at hgk
        repeat' (first | (with_reducible refine use_pure hgk ?_) | (with_reducible first | (refine wN fun nl hnl => ?_; revert hnl; (repeat refine wS fun _ _ => ?_); intro hnl) | refine wD (by decide +kernel) ?_ | refine wI (fun h => ?_) fun h => ?_ | refine wF (fun h => ?_) fun h => ?_ | refine wG (fun h => ?_) fun h => ?_ | refine wH (fun h => ?_) fun h => ?_ | ((first | refine mfork_bool (fun h => ?_) fun h => ?_ | refine mgfork_bool (fun h => ?_) fun h => ?_) <;> simp only [h])) | simp (maxSteps := 4000000) (disch := first | decide | assumption | omega | (simp only [wL]; omega)) only [go_sem, simprocAttr, getD_mapd nd0])
        refine .of (.less (l1 := [(8, .int .i64 ((k + 1 : Nat) : Int)), (7, .int .i64 (l.length : Int)), (6, .lst 5 (l.map ND.c) t), (0, .lst 5 (l.map ND.c) t), (1, .fn (.func g) [] [])]) ?_ (St.le_refl _)) ⟨k + 1, rfl, rfl, ⟨by omega, ?_⟩, by omega⟩
        · simp (maxSteps := 4000000) (disch := first | decide | assumption | omega | (simp only [wL]; omega)) only [go_sem, simprocAttr, weak_int, weak_same]
          all_goals omega
        · rw [any_take_succ hk, h2, ← getD_of_lt nd0 hk, hp]; rfl
      · rw [hp] at hgk
        have hany : l.any p = true := List.any_eq_true.2 ⟨_, getD_mem nd0 hk, hp⟩
        have hf : l.findIdx p = k := by
          rw [List.findIdx_eq hk]
          refine ⟨by rw [← getD_of_lt nd0 hk]; exact hp, fun j hj => ?_⟩
          have := List.any_eq_false.1 h2 l[j] (by rw [List.mem_take_iff_getElem]; exact ⟨j, by omega, rfl⟩)
          simpa using this
        rw [hany, hf]
        repeat' (first | (with_reducible refine use_pure hgk ?_) | (with_reducible first | (refine wN fun nl hnl => ?_; revert hnl; (repeat refine wS fun _ _ => ?_); intro hnl) | refine wD (by decide +kernel) ?_ | refine wI (fun h => ?_) fun h => ?_ | refine wF (fun h => ?_) fun h => ?_ | refine wG (fun h => ?_) fun h => ?_ | refine wH (fun h => ?_) fun h => ?_ | ((first | refine mfork_bool (fun h => ?_) fun h => ?_ | refine mgfork_bool (fun h => ?_) fun h => ?_) <;> simp only [h])) | simp (maxSteps := 4000000) (disch := first | decide | assumption | omega | (simp only [wL]; omega)) only [go_sem, simprocAttr, getD_mapd nd0])
    · have : k = l.length := by omega
      subst this
      rw [List.take_length] at h2
      rw [h2]
      repeat' (first | (with_reducible first | (refine wN fun nl hnl => ?_; revert hnl; (repeat refine wS fun _ _ => ?_); intro hnl) | refine wD (by decide +kernel) ?_ | refine wI (fun h => ?_) fun h => ?_ | refine wF (fun h => ?_) fun h => ?_ | refine wG (fun h => ?_) fun h => ?_ | refine wH (fun h => ?_) fun h => ?_ | ((first | refine mfork_bool (fun h => ?_) fun h => ?_ | refine mgfork_bool (fun h => ?_) fun h => ?_) <;> simp only [h])) | simp (maxSteps := 4000000) (disch := first | decide | assumption | omega | (simp only [wL]; omega)) only [go_sem, simprocAttr, getD_mapd nd0])
theorem contains_call (p : ND → Bool) (g : FuncId) (l : List ND) (hl : l.length ≤ 1000000) (t : Bool) (hg : ∀ x, x ∈ l → MCalls Tryz.prog g [.agg x.c] St.none (fun r _ => r = .bool (p x))) :
    MCalls Tryz.prog 153 [.lst 5 (l.map ND.c) t, .fn (.func g) [] []] St.none (fun r _ => r = .bool (l.any p)) := by
  refine (MCalls.body 9 [.tmp 4] Tryz.func153 rfl rfl rfl rfl ?_)
  have hi := index_call p g l hl t hg
  cases hany : l.any p
  · rw [hany] at hi
    simp only [Bool.false_eq_true, if_false] at hi
    repeat' (first | (with_reducible refine use_pure hi ?_) | (with_reducible first | (refine wN fun nl hnl => ?_; revert hnl; (repeat refine wS fun _ _ => ?_); intro hnl) | refine wD (by decide +kernel) ?_ | refine wI (fun h => ?_) fun h => ?_ | refine wF (fun h => ?_) fun h => ?_ | refine wG (fun h => ?_) fun h => ?_ | refine wH (fun h => ?_) fun h => ?_ | ((first | refine mfork_bool (fun h => ?_) fun h => ?_ | refine mgfork_bool (fun h => ?_) fun h => ?_) <;> simp only [h])) | simp (maxSteps := 4000000) (disch := first | decide | assumption | omega | (simp only [wL]; omega)) only [go_sem, simprocAttr, Tryz.f153])
  · rw [hany] at hi
    simp only [if_true] at hi
    repeat' (first | (with_reducible refine use_pure hi ?_) | (with_reducible first | (refine wN fun nl hnl => ?_; revert hnl; (repeat refine wS fun _ _ => ?_); intro hnl) | refine wD (by decide +kernel) ?_ | refine wI (fun h => ?_) fun h => ?_ | refine wF (fun h => ?_) fun h => ?_ | refine wG (fun h => ?_) fun h => ?_ | refine wH (fun h => ?_) fun h => ?_ | ((first | refine mfork_bool (fun h => ?_) fun h => ?_ | refine mgfork_bool (fun h => ?_) fun h => ?_) <;> simp only [h])) | simp (maxSteps := 4000000) (disch := first | decide | assumption | omega | (simp only [wL]; omega)) only [go_sem, simprocAttr, Tryz.f153])
    simp
theorem or_call (a b c : Int) : MCalls Tryz.prog 141 [.lst 1 [[.int .i64 a], [.int .i64 b], [.int .i64 c]] false] St.none (fun r _ => r = .int .i64 (if a ≠ 0 then a else if b ≠ 0 then b else c)) := by
  refine (MCalls.body 18 [.tmp 2] Tryz.func141 rfl rfl rfl rfl ?_)
  repeat' (first | (with_reducible first | (refine wN fun nl hnl => ?_; revert hnl; (repeat refine wS fun _ _ => ?_); intro hnl) | refine wD (by decide +kernel) ?_ | refine wI (fun h => ?_) fun h => ?_ | refine wF (fun h => ?_) fun h => ?_ | refine wG (fun h => ?_) fun h => ?_ | refine wH (fun h => ?_) fun h => ?_ | ((first | refine mfork_bool (fun h => ?_) fun h => ?_ | refine mgfork_bool (fun h => ?_) fun h => ?_) <;> simp only [h])) | simp (maxSteps := 4000000) (disch := first | decide | assumption | omega | (simp only [wL]; omega)) only [go_sem, simprocAttr, Tryz.f141])
  refine mloop_intro (α := Nat) (fun k => ⟨18, [(8, .int .i64 (k : Int)), (7, .int .i64 3), (6, .lst 1 [[.int .i64 a], [.int .i64 b], [.int .i64 c]] false), (3, .int .i64 0)], []⟩) (fun _ => St.none)
    (fun k => k ≤ 3 ∧ (0 < k → a = 0) ∧ (1 < k → b = 0) ∧ (2 < k → c = 0)) (fun k => 3 - k) (.of (.less ?_ (St.le_refl _)) ⟨0, rfl, rfl, by omega⟩) ?_
  · simp (maxSteps := 4000000) (disch := first | decide | assumption | omega | (simp only [wL]; omega)) only [go_sem, simprocAttr, weak_int, weak_same]
    all_goals omega
  · rintro k ⟨h1, h2, h3, h4⟩
    have hk : k = 0 ∨ k = 1 ∨ k = 2 ∨ k = 3 := by omega
    rcases hk with rfl | rfl | rfl | rfl
    · by_cases ha : a = 0
      · subst ha
        repeat' (first | (with_reducible first | (refine wN fun nl hnl => ?_; revert hnl; (repeat refine wS fun _ _ => ?_); intro hnl) | refine wD (by decide +kernel) ?_ | refine wI (fun h => ?_) fun h => ?_ | refine wF (fun h => ?_) fun h => ?_ | refine wG (fun h => ?_) fun h => ?_ | refine wH (fun h => ?_) fun h => ?_ | ((first | refine mfork_bool (fun h => ?_) fun h => ?_ | refine mgfork_bool (fun h => ?_) fun h => ?_) <;> simp only [h])) | simp (maxSteps := 4000000) (disch := first | decide | assumption | omega | (simp only [wL]; omega)) only [go_sem, simprocAttr])
        refine .of (.less (l1 := [(8, .int .i64 ((1 : Nat) : Int)), (7, .int .i64 3), (6, .lst 1 [[.int .i64 0], [.int .i64 b], [.int .i64 c]] false), (3, .int .i64 0)]) ?_ (St.none_le _)) ⟨1, rfl, rfl, ⟨by omega, fun _ => trivial, fun h => by first | assumption | omega, fun h => by first | assumption | omega⟩, by omega⟩
        simp (maxSteps := 4000000) (disch := first | decide | assumption | omega | (simp only [wL]; omega)) only [go_sem, simprocAttr, weak_int, weak_same]
        all_goals omega
      · repeat' (first | (with_reducible first | (refine wN fun nl hnl => ?_; revert hnl; (repeat refine wS fun _ _ => ?_); intro hnl) | refine wD (by decide +kernel) ?_ | refine wI (fun h => ?_) fun h => ?_ | refine wF (fun h => ?_) fun h => ?_ | refine wG (fun h => ?_) fun h => ?_ | refine wH (fun h => ?_) fun h => ?_ | ((first | refine mfork_bool (fun h => ?_) fun h => ?_ | refine mgfork_bool (fun h => ?_) fun h => ?_) <;> simp only [h])) | simp (maxSteps := 4000000) (disch := first | decide | assumption | omega | (simp only [wL]; omega)) only [go_sem, simprocAttr])
        all_goals simp [ha]
    · have ha := h2 (by omega)
      by_cases hb : b = 0
      · repeat' (first | (with_reducible first | (refine wN fun nl hnl => ?_; revert hnl; (repeat refine wS fun _ _ => ?_); intro hnl) | refine wD (by decide +kernel) ?_ | refine wI (fun h => ?_) fun h => ?_ | refine wF (fun h => ?_) fun h => ?_ | refine wG (fun h => ?_) fun h => ?_ | refine wH (fun h => ?_) fun h => ?_ | ((first | refine mfork_bool (fun h => ?_) fun h => ?_ | refine mgfork_bool (fun h => ?_) fun h => ?_) <;> simp only [h])) | simp (maxSteps := 4000000) (disch := first | decide | assumption | omega | (simp only [wL]; omega)) only [go_sem, simprocAttr])
        refine .of (.less (l1 := [(8, .int .i64 ((2 : Nat) : Int)), (7, .int .i64 3), (6, .lst 1 [[.int .i64 a], [.int .i64 b], [.int .i64 c]] false), (3, .int .i64 0)]) ?_ (St.none_le _)) ⟨2, rfl, rfl, ⟨by omega, fun _ => by assumption, fun h => by first | assumption | omega, fun h => by first | assumption | omega⟩, by omega⟩
        simp (maxSteps := 4000000) (disch := first | decide | assumption | omega | (simp only [wL]; omega)) only [go_sem, simprocAttr, weak_int, weak_same]
        all_goals omega
      · repeat' (first | (with_reducible first | (refine wN fun nl hnl => ?_; revert hnl; (repeat refine wS fun _ _ => ?_); intro hnl) | refine wD (by decide +kernel) ?_ | refine wI (fun h => ?_) fun h => ?_ | refine wF (fun h => ?_) fun h => ?_ | refine wG (fun h => ?_) fun h => ?_ | refine wH (fun h => ?_) fun h => ?_ | ((first | refine mfork_bool (fun h => ?_) fun h => ?_ | refine mgfork_bool (fun h => ?_) fun h => ?_) <;> simp only [h])) | simp (maxSteps := 4000000) (disch := first | decide | assumption | omega | (simp only [wL]; omega)) only [go_sem, simprocAttr])
        all_goals simp [ha, hb]
    · have ha := h2 (by omega)
      have hb := h3 (by omega)
      by_cases hc : c = 0
      · repeat' (first | (with_reducible first | (refine wN fun nl hnl => ?_; revert hnl; (repeat refine wS fun _ _ => ?_); intro hnl) | refine wD (by decide +kernel) ?_ | refine wI (fun h => ?_) fun h => ?_ | refine wF (fun h => ?_) fun h => ?_ | refine wG (fun h => ?_) fun h => ?_ | refine wH (fun h => ?_) fun h => ?_ | ((first | refine mfork_bool (fun h => ?_) fun h => ?_ | refine mgfork_bool (fun h => ?_) fun h => ?_) <;> simp only [h])) | simp (maxSteps := 4000000) (disch := first | decide | assumption | omega | (simp only [wL]; omega)) only [go_sem, simprocAttr])
        refine .of (.less (l1 := [(8, .int .i64 ((3 : Nat) : Int)), (7, .int .i64 3), (6, .lst 1 [[.int .i64 a], [.int .i64 b], [.int .i64 c]] false), (3, .int .i64 0)]) ?_ (St.none_le _)) ⟨3, rfl, rfl, ⟨by omega, fun _ => by assumption, fun h => by first | assumption | omega, fun h => by first | assumption | omega⟩, by omega⟩
        simp (maxSteps := 4000000) (disch := first | decide | assumption | omega | (simp only [wL]; omega)) only [go_sem, simprocAttr, weak_int, weak_same]
        all_goals omega
      · repeat' (first | (with_reducible first | (refine wN fun nl hnl => ?_; revert hnl; (repeat refine wS fun _ _ => ?_); intro hnl) | refine wD (by decide +kernel) ?_ | refine wI (fun h => ?_) fun h => ?_ | refine wF (fun h => ?_) fun h => ?_ | refine wG (fun h => ?_) fun h => ?_ | refine wH (fun h => ?_) fun h => ?_ | ((first | refine mfork_bool (fun h => ?_) fun h => ?_ | refine mgfork_bool (fun h => ?_) fun h => ?_) <;> simp only [h])) | simp (maxSteps := 4000000) (disch := first | decide | assumption | omega | (simp only [wL]; omega)) only [go_sem, simprocAttr])
        all_goals simp [ha, hb]
    · repeat' (first | (with_reducible first | (refine wN fun nl hnl => ?_; revert hnl; (repeat refine wS fun _ _ => ?_); intro hnl) | refine wD (by decide +kernel) ?_ | refine wI (fun h => ?_) fun h => ?_ | refine wF (fun h => ?_) fun h => ?_ | refine wG (fun h => ?_) fun h => ?_ | refine wH (fun h => ?_) fun h => ?_ | ((first | refine mfork_bool (fun h => ?_) fun h => ?_ | refine mgfork_bool (fun h => ?_) fun h => ?_) <;> simp only [h])) | simp (maxSteps := 4000000) (disch := first | decide | assumption | omega | (simp only [wL]; omega)) only [go_sem, simprocAttr])
      simp [h2 (by omega), h3 (by omega), h4 (by omega)]
theorem cmpfn_call (g : FuncId) (a b : List ND) (la : a.length ≤ 1000000) (lb : b.length ≤ 1000000) (ta tb : Bool) (hg : ∀ x y, x ∈ a → y ∈ b → MCalls Tryz.prog g [.agg x.c, .agg y.c] St.none (fun r _ => r = .int .i64 (ordI (cmpL x.key y.key)))) :
    MCalls Tryz.prog 139 [.lst 5 (a.map ND.c) ta, .lst 5 (b.map ND.c) tb, .fn (.func g) [] []] St.none (fun r _ => r = .int .i64 (ordI (cmpF a b))) := by
  refine (MCalls.body 39 [.tmp 6] Tryz.func139 rfl rfl rfl rfl ?_)
  repeat' (first | (with_reducible first | (refine wN fun nl hnl => ?_; revert hnl; (repeat refine wS fun _ _ => ?_); intro hnl) | refine wD (by decide +kernel) ?_ | refine wI (fun h => ?_) fun h => ?_ | refine wF (fun h => ?_) fun h => ?_ | refine wG (fun h => ?_) fun h => ?_ | refine wH (fun h => ?_) fun h => ?_ | ((first | refine mfork_bool (fun h => ?_) fun h => ?_ | refine mgfork_bool (fun h => ?_) fun h => ?_) <;> simp only [h])) | simp (maxSteps := 4000000) (disch := first | decide | assumption | omega | (simp only [wL]; omega)) only [go_sem, simprocAttr, Tryz.f139])
  refine mloop_intro (α := Nat) (fun k => ⟨39, [(13, .int .i64 (k : Int)), (12, .int .i64 (a.length : Int)), (11, .lst 5 (a.map ND.c) ta), (0, .lst 5 (a.map ND.c) ta), (1, .lst 5 (b.map ND.c) tb), (2, .fn (.func g) [] [])], []⟩) (fun _ => St.none)
    (fun i => i ≤ a.length ∧ i ≤ b.length ∧ cmpF a b = cmpF (a.drop i) (b.drop i)) (fun k => a.length - k) (.of (.less ?_ (St.le_refl _)) ⟨0, rfl, rfl, by simp⟩) ?_
  · simp (maxSteps := 4000000) (disch := first | decide | assumption | omega | (simp only [wL]; omega)) only [go_sem, simprocAttr, weak_int, weak_same]
    all_goals rfl
  · rintro i ⟨h3, h4, h5⟩
    by_cases hi1 : i < a.length
    · by_cases hi2 : i < b.length
      · rw [drop_getD nd0 hi1, drop_getD nd0 hi2, cmpF_cons] at h5
        have hord := hg _ _ (getD_mem nd0 hi1) (getD_mem nd0 hi2)
        generalize ho : cmpL (a.getD i nd0).key (b.getD i nd0).key = o at h5 hord
        by_cases hoe : o = .eq
        · have h0 : ordI o = 0 := by rw [hoe]; rfl
          rw [h0] at hord
          rw [if_pos hoe] at h5
          repeat' (first | (with_reducible refine use_pure hord ?_) | (with_reducible first | (refine wN fun nl hnl => ?_; revert hnl; (repeat refine wS fun _ _ => ?_); intro hnl) | refine wD (by decide +kernel) ?_ | refine wI (fun h => ?_) fun h => ?_ | refine wF (fun h => ?_) fun h => ?_ | refine wG (fun h => ?_) fun h => ?_ | refine wH (fun h => ?_) fun h => ?_ | ((first | refine mfork_bool (fun h => ?_) fun h => ?_ | refine mgfork_bool (fun h => ?_) fun h => ?_) <;> simp only [h])) | simp (maxSteps := 4000000) (disch := first | decide | assumption | omega | (simp only [wL]; omega)) only [go_sem, simprocAttr, getD_mapd nd0])
          refine .of (.less (l1 := [(13, .int .i64 ((i + 1 : Nat) : Int)), (12, .int .i64 (a.length : Int)), (11, .lst 5 (a.map ND.c) ta), (0, .lst 5 (a.map ND.c) ta), (1, .lst 5 (b.map ND.c) tb), (2, .fn (.func g) [] [])]) ?_ (St.none_le _)) ⟨i + 1, rfl, rfl, ⟨by omega, by omega, h5⟩, by omega⟩
          simp (maxSteps := 4000000) (disch := first | decide | assumption | omega | (simp only [wL]; omega)) only [go_sem, simprocAttr, weak_int, weak_same]
          all_goals omega
        · have h0 : ordI o ≠ 0 := fun h => hoe (ordI_zero.1 h)
          rw [if_neg hoe] at h5
          rw [h5]
          repeat' (first | (with_reducible refine use_pure hord ?_) | (with_reducible first | (refine wN fun nl hnl => ?_; revert hnl; (repeat refine wS fun _ _ => ?_); intro hnl) | refine wD (by decide +kernel) ?_ | refine wI (fun h => ?_) fun h => ?_ | refine wF (fun h => ?_) fun h => ?_ | refine wG (fun h => ?_) fun h => ?_ | refine wH (fun h => ?_) fun h => ?_ | ((first | refine mfork_bool (fun h => ?_) fun h => ?_ | refine mgfork_bool (fun h => ?_) fun h => ?_) <;> simp only [h])) | simp (maxSteps := 4000000) (disch := first | decide | assumption | omega | (simp only [wL]; omega)) only [go_sem, simprocAttr, getD_mapd nd0])
      · rw [drop_getD nd0 hi1, List.drop_eq_nil_of_le (show b.length ≤ i by omega)] at h5
        rw [h5]
        repeat' (first | (with_reducible first | (refine wN fun nl hnl => ?_; revert hnl; (repeat refine wS fun _ _ => ?_); intro hnl) | refine wD (by decide +kernel) ?_ | refine wI (fun h => ?_) fun h => ?_ | refine wF (fun h => ?_) fun h => ?_ | refine wG (fun h => ?_) fun h => ?_ | refine wH (fun h => ?_) fun h => ?_ | ((first | refine mfork_bool (fun h => ?_) fun h => ?_ | refine mgfork_bool (fun h => ?_) fun h => ?_) <;> simp only [h])) | simp (maxSteps := 4000000) (disch := first | decide | assumption | omega | (simp only [wL]; omega)) only [go_sem, simprocAttr, getD_mapd nd0])
        rfl
    · rw [List.drop_eq_nil_of_le (show a.length ≤ i by omega)] at h5
      by_cases h8 : i < b.length
      · rw [drop_getD nd0 h8] at h5
        rw [h5]
        repeat' (first | (with_reducible first | (refine wN fun nl hnl => ?_; revert hnl; (repeat refine wS fun _ _ => ?_); intro hnl) | refine wD (by decide +kernel) ?_ | refine wI (fun h => ?_) fun h => ?_ | refine wF (fun h => ?_) fun h => ?_ | refine wG (fun h => ?_) fun h => ?_ | refine wH (fun h => ?_) fun h => ?_ | ((first | refine mfork_bool (fun h => ?_) fun h => ?_ | refine mgfork_bool (fun h => ?_) fun h => ?_) <;> simp only [h])) | simp (maxSteps := 4000000) (disch := first | decide | assumption | omega | (simp only [wL]; omega)) only [go_sem, simprocAttr, getD_mapd nd0])
        rfl
      · rw [List.drop_eq_nil_of_le (show b.length ≤ i by omega)] at h5
        rw [h5]
        repeat' (first | (with_reducible first | (refine wN fun nl hnl => ?_; revert hnl; (repeat refine wS fun _ _ => ?_); intro hnl) | refine wD (by decide +kernel) ?_ | refine wI (fun h => ?_) fun h => ?_ | refine wF (fun h => ?_) fun h => ?_ | refine wG (fun h => ?_) fun h => ?_ | refine wH (fun h => ?_) fun h => ?_ | ((first | refine mfork_bool (fun h => ?_) fun h => ?_ | refine mgfork_bool (fun h => ?_) fun h => ?_) <;> simp only [h])) | simp (maxSteps := 4000000) (disch := first | decide | assumption | omega | (simp only [wL]; omega)) only [go_sem, simprocAttr, getD_mapd nd0])
        rfl
theorem vcompare_call (a b : VA) : MCalls Tryz.prog 143 [.agg a.c, .agg b.c] St.none (fun r _ => r = .int .i64 (ordI (cmpL a.key b.key))) := by
  refine (MCalls.body 28 [.tmp 4] Tryz.func143 rfl rfl rfl rfl ?_)
  by_cases h1 : a.kd = b.kd
  · have e1 : cmpL a.key b.key = cmpL (a.n :: bk a.s) (b.n :: bk b.s) := by rw [VA.key, VA.key, h1, cmpL_same]; rfl
    have c1 : ordI (cmpL [a.kd] [b.kd]) = 0 := by rw [h1, cmpL_refl]; rfl
    by_cases h2 : a.n = b.n
    · have e2 : cmpL a.key b.key = cmpL (bk a.s) (bk b.s) := by rw [e1, h2, cmpL_same]
      have c2 : ordI (cmpL [a.n] [b.n]) = 0 := by rw [h2, cmpL_refl]; rfl
      rw [e2]
      repeat' (first | (with_reducible refine use_pure (cmpint_call _ _) ?_) | (with_reducible refine use_pure (cmpstr_call _ _) ?_) | (with_reducible first | (refine wN fun nl hnl => ?_; revert hnl; (repeat refine wS fun _ _ => ?_); intro hnl) | refine wD (by decide +kernel) ?_ | refine wI (fun h => ?_) fun h => ?_ | refine wF (fun h => ?_) fun h => ?_ | refine wG (fun h => ?_) fun h => ?_ | refine wH (fun h => ?_) fun h => ?_ | ((first | refine mfork_bool (fun h => ?_) fun h => ?_ | refine mgfork_bool (fun h => ?_) fun h => ?_) <;> simp only [h])) | simp (maxSteps := 4000000) (disch := first | decide | assumption | omega | (simp only [wL]; omega)) only [go_sem, simprocAttr, Tryz.f143, c1, c2])
    · have e2 : cmpL a.key b.key = cmpL [a.n] [b.n] := by rw [e1, cmpL_ne h2]
      have c2 : ordI (cmpL [a.n] [b.n]) ≠ 0 := fun h => h2 (by have := cmpL_eq.1 (ordI_zero.1 h); simpa using this)
      rw [e2]
      repeat' (first | (with_reducible refine use_pure (cmpint_call _ _) ?_) | (with_reducible refine use_pure (cmpstr_call _ _) ?_) | (with_reducible first | (refine wN fun nl hnl => ?_; revert hnl; (repeat refine wS fun _ _ => ?_); intro hnl) | refine wD (by decide +kernel) ?_ | refine wI (fun h => ?_) fun h => ?_ | refine wF (fun h => ?_) fun h => ?_ | refine wG (fun h => ?_) fun h => ?_ | refine wH (fun h => ?_) fun h => ?_ | ((first | refine mfork_bool (fun h => ?_) fun h => ?_ | refine mgfork_bool (fun h => ?_) fun h => ?_) <;> simp only [h])) | simp (maxSteps := 4000000) (disch := first | decide | assumption | omega | (simp only [wL]; omega)) only [go_sem, simprocAttr, Tryz.f143, c1])
  · have e1 : cmpL a.key b.key = cmpL [a.kd] [b.kd] := by rw [VA.key, VA.key, cmpL_ne h1]
    have c1 : ordI (cmpL [a.kd] [b.kd]) ≠ 0 := fun h => h1 (by have := cmpL_eq.1 (ordI_zero.1 h); simpa using this)
    rw [e1]
    repeat' (first | (with_reducible refine use_pure (cmpint_call _ _) ?_) | (with_reducible refine use_pure (cmpstr_call _ _) ?_) | (with_reducible first | (refine wN fun nl hnl => ?_; revert hnl; (repeat refine wS fun _ _ => ?_); intro hnl) | refine wD (by decide +kernel) ?_ | refine wI (fun h => ?_) fun h => ?_ | refine wF (fun h => ?_) fun h => ?_ | refine wG (fun h => ?_) fun h => ?_ | refine wH (fun h => ?_) fun h => ?_ | ((first | refine mfork_bool (fun h => ?_) fun h => ?_ | refine mgfork_bool (fun h => ?_) fun h => ?_) <;> simp only [h])) | simp (maxSteps := 4000000) (disch := first | decide | assumption | omega | (simp only [wL]; omega)) only [go_sem, simprocAttr, Tryz.f143])
end Go.Proofs.YtfbodefnblpflaaGreatDoor
end

section
/- Values, fields, cards, patches, edits, tokens, items held against one another by '==': the conditions that the theorems name. -/
set_option linter.unusedVariables false
set_option linter.unusedSimpArgs false
namespace Go.Proofs.YtfbodefnblpflaaGreatDoor
set_option maxRecDepth 100000
theorem va_iff {a b : VA} : a = b ↔ a.kd = b.kd ∧ a.n = b.n ∧ a.s = b.s := by
  obtain ⟨a1, a2, a3⟩ := a
  obtain ⟨b1, b2, b3⟩ := b
  simp
theorem meqs_struct {P : Program} {d : Nat} {t : TypeId} {fs : List (Nat × TypeId)} {xs ys : List MV} (hk : (td P t).k = .struct fs) (hp : eqPlain P t = true) : meqs P (d + 1) t (.agg xs) (.agg ys) = meqFields P (meqs P d) xs ys fs := by
  simp only [meqs, hk, hp, if_true]
theorem meqs_array {P : Program} {d n : Nat} {t e : TypeId} {xs ys : List MV} (hk : (td P t).k = .array n e) (hp : (td P e).ok = true) : meqs P (d + 1) t (.agg xs) (.agg ys) = meqFields P (meqs P d) xs ys ((List.range n).map fun i => (i * (td P e).size, e)) := by
  simp only [meqs, hk, hp, if_true]
theorem meqs_int {P : Program} {d : Nat} {t : TypeId} {k k' : IntKind} {a b : Int} (hk : (td P t).k = .int k') : meqs P (d + 1) t (.int k a) (.int k b) = some (decide (a = b)) := by
  simp only [meqs, hk, if_true]
theorem meqs_str {P : Program} {d : Nat} {t : TypeId} {a b : ByteArray} (hk : (td P t).k = .str) : meqs P (d + 1) t (.str a) (.str b) = some (decide (a = b)) := by
  simp only [meqs, hk]
theorem tdk3 : (td Tryz.prog 3).k = .int .i64 := by rw [td3]
theorem tdk22 : (td Tryz.prog 22).k = .int .u32 := by rw [td22]
theorem tdk9 : (td Tryz.prog 9).k = .str := by rw [td9]
theorem mpart_val {l : List MV} {i : Nat} {f : F8} (hl : l = fc f) (h : i < 8) : mpart (td Tryz.prog 24) l (i * 3) = .agg (f.get i).c := by
  simp only [mpart, td24, TK.isAgg, if_true, hl]
  exact congrArg MV.agg (fc_at h)
theorem meq_val (d : Nat) (a b : VA) : meqs Tryz.prog (d + 2) 24 (.agg a.c) (.agg b.c) = some (decide (a = b)) := by
  have hp : eqPlain Tryz.prog 24 = true := by decide +kernel
  rw [meqs_struct (by rw [td24]) hp]
  simp only [meqFields, td3, td9, mpart, TK.isAgg, Bool.false_eq_true, if_false, List.getD_cons_zero, List.getD_cons_succ, List.length_cons, List.length_nil, meqs_int tdk3, meqs_str tdk9]
  simp [va_iff, Bool.decide_and]
theorem f8_iff {f g : F8} : f = g ↔ ∀ i, i ∈ List.range 8 → f.get i = g.get i :=
  ⟨fun h i _ => by rw [h], fun h => F8.ext fun i hi => h i (List.mem_range.2 hi)⟩
theorem meq_list (d : Nat) (f g : F8) : ∀ L : List Nat, (∀ i, i ∈ L → i < 8) → meqFields Tryz.prog (meqs Tryz.prog (d + 2)) (fc f) (fc g) (L.map fun i => (i * 3, 24)) = some (decide (∀ i, i ∈ L → f.get i = g.get i))
  | [], _ => by simp [meqFields]
  | i :: L, h => by
    have hi := h i (by simp)
    have ih := meq_list d f g L fun j hj => h j (by simp [hj])
    have h3 : (td Tryz.prog 24).size = 3 := by rw [td24]
    have ho : (td Tryz.prog 24).ok = true := by rw [td24]
    simp only [List.map_cons, meqFields]
    rw [mpart_val rfl hi, mpart_val rfl hi, ih, meq_val, if_pos ⟨ho, by rw [h3, fc_len]; omega, by rw [h3, fc_len]; omega, by rw [h3]; decide⟩]
    simp only [Option.map_some, List.forall_mem_cons]
    rw [Bool.decide_and]
theorem meq_vals (d : Nat) (f g : F8) : meqs Tryz.prog (d + 3) 25 (.agg (fc f)) (.agg (fc g)) = some (decide (f = g)) := by
  have h3 : (td Tryz.prog 24).size = 3 := by rw [td24]
  rw [meqs_array (n := 8) (e := 24) (by rw [td25]) (by rw [td24]), h3, meq_list d f g _ (fun i hi => List.mem_range.1 hi)]
  congr 1
  exact decide_eq_decide.mpr f8_iff.symm
theorem pa_iff {a b : PA} : a = b ↔ a.mask = b.mask ∧ a.lab = b.lab ∧ a.f = b.f := by
  obtain ⟨a1, a2, a3⟩ := a
  obtain ⟨b1, b2, b3⟩ := b
  simp
theorem ca_iff {a b : CA} : a = b ↔ a.id = b.id ∧ a.ver = b.ver ∧ a.lab = b.lab ∧ a.f = b.f := by
  obtain ⟨a1, a2, a3, a4⟩ := a
  obtain ⟨b1, b2, b3, b4⟩ := b
  simp
theorem ed_iff {a b : ED} : a = b ↔ a.kd = b.kd ∧ a.id = b.id ∧ a.gr = b.gr ∧ a.p = b.p := by
  obtain ⟨a1, a2, a3, a4⟩ := a
  obtain ⟨b1, b2, b3, b4⟩ := b
  simp
theorem to_iff {a b : TO} : a = b ↔ a.dev = b.dev ∧ a.ep = b.ep ∧ a.sq = b.sq ∧ a.cu = b.cu := by
  obtain ⟨a1, a2, a3, a4⟩ := a
  obtain ⟨b1, b2, b3, b4⟩ := b
  simp
theorem it_iff {a b : IT} : a = b ↔ a.kd = b.kd ∧ a.c = b.c := by
  obtain ⟨a1, a2⟩ := a
  obtain ⟨b1, b2⟩ := b
  simp
theorem meq_patch (d : Nat) (a b : PA) : meqs Tryz.prog (d + 4) 27 (.agg a.c) (.agg b.c) = some (decide (a = b)) := by
  have hp : eqPlain Tryz.prog 27 = true := by decide +kernel
  rw [meqs_struct (by rw [td27]) hp]
  simp only [meqFields, td22, td25, mpart, TK.isAgg, if_true, Bool.false_eq_true, if_false, List.getD_cons_zero, List.getD_cons_succ, List.length_cons, List.length_nil, List.drop_succ_cons, List.drop_zero, fc_take' (Nat.le_refl 24), fc_len, meq_vals, meqs_int tdk22]
  simp [pa_iff, u32_int, Bool.decide_and]
theorem meq_card (d : Nat) (a b : CA) : meqs Tryz.prog (d + 4) 117 (.agg a.c) (.agg b.c) = some (decide (a = b)) := by
  have hp : eqPlain Tryz.prog 117 = true := by decide +kernel
  rw [meqs_struct (by rw [td117]) hp]
  simp only [meqFields, td22, td3, td25, mpart, TK.isAgg, if_true, Bool.false_eq_true, if_false, List.getD_cons_zero, List.getD_cons_succ, List.length_cons, List.length_nil, List.drop_succ_cons, List.drop_zero, fc_take' (Nat.le_refl 24), fc_len, meq_vals, meqs_int tdk22, meqs_int tdk3]
  simp [ca_iff, u32_int, Bool.decide_and]
theorem meq_edit (d : Nat) (a b : ED) : meqs Tryz.prog (d + 5) 29 (.agg a.c) (.agg b.c) = some (decide (a = b)) := by
  have hp : eqPlain Tryz.prog 29 = true := by decide +kernel
  have hq := meq_patch d a.p b.p
  rw [meqs_struct (by rw [td29]) hp]
  simp only [meqFields, td27, td3, mpart, TK.isAgg, if_true, Bool.false_eq_true, if_false, List.getD_cons_zero, List.getD_cons_succ, List.length_cons, List.length_nil, List.drop_succ_cons, List.drop_zero, List.take_succ_cons, fc_take' (Nat.le_refl 24), fc_len, hq, meqs_int tdk3]
  simp [ed_iff, Bool.decide_and]
theorem meq_token (d : Nat) (a b : TO) : meqs Tryz.prog (d + 2) 34 (.agg a.c) (.agg b.c) = some (decide (a = b)) := by
  have hp : eqPlain Tryz.prog 34 = true := by decide +kernel
  rw [meqs_struct (by rw [td34]) hp]
  simp only [meqFields, td3, mpart, TK.isAgg, Bool.false_eq_true, if_false, List.getD_cons_zero, List.getD_cons_succ, List.length_cons, List.length_nil, meqs_int tdk3]
  simp [to_iff, Bool.decide_and]
abbrev IT.k (x : IT) : List MV := .int .i64 x.kd :: .int .i64 x.c.id :: .int .i64 x.c.ver :: .int .u32 (x.c.lab.toNat : Int) :: fc x.c.f
theorem meq_item (d : Nat) (a b : IT) : meqs Tryz.prog (d + 5) 119 (.agg a.k) (.agg b.k) = some (decide (a = b)) := by
  have hp : eqPlain Tryz.prog 119 = true := by decide +kernel
  have hq := meq_card d a.c b.c
  rw [meqs_struct (by rw [td119]) hp]
  simp only [meqFields, td117, td3, mpart, TK.isAgg, if_true, Bool.false_eq_true, if_false, List.getD_cons_zero, List.getD_cons_succ, List.length_cons, List.length_nil, List.drop_succ_cons, List.drop_zero, List.take_succ_cons, fc_take' (Nat.le_refl 24), fc_len, hq, meqs_int tdk3]
  simp [it_iff, Bool.decide_and]
end Go.Proofs.YtfbodefnblpflaaGreatDoor
end

section
/- When structs are alike, as an operation. No program in sight. -/
set_option linter.unusedVariables false
set_option linter.unusedSimpArgs false
namespace Go.Proofs.YtfbodefnblpflaaGreatDoor
theorem mb_neq {t : TypeId} {xs ys : List MV} {b : Bool} (h : meqs Tryz.prog 6 t (.agg xs) (.agg ys) = some b) (hp : eqPlain Tryz.prog t = true) : mbin Tryz.prog t .neq (.agg xs) (.agg ys) = some (True, .bool (!b)) := by
  rw [mbin_agg, h, maggEq_some, eqV_neq, hp]; simp
theorem mb_eql {t : TypeId} {xs ys : List MV} {b : Bool} (h : meqs Tryz.prog 6 t (.agg xs) (.agg ys) = some b) (hp : eqPlain Tryz.prog t = true) : mbin Tryz.prog t .eql (.agg xs) (.agg ys) = some (True, .bool b) := by
  rw [mbin_agg, h, maggEq_some, eqV_eql, hp]; simp
theorem pl_patch : eqPlain Tryz.prog 27 = true := by decide +kernel
theorem pl_card : eqPlain Tryz.prog 117 = true := by decide +kernel
theorem pl_edit : eqPlain Tryz.prog 29 = true := by decide +kernel
theorem pl_token : eqPlain Tryz.prog 34 = true := by decide +kernel
theorem pl_item : eqPlain Tryz.prog 119 = true := by decide +kernel
theorem mbn_patch (a b : PA) : mbin Tryz.prog 27 .neq (.agg a.c) (.agg b.c) = some (True, .bool (!decide (a = b))) := mb_neq (meq_patch 2 a b) pl_patch
theorem mbe_patch (a b : PA) : mbin Tryz.prog 27 .eql (.agg a.c) (.agg b.c) = some (True, .bool (decide (a = b))) := mb_eql (meq_patch 2 a b) pl_patch
theorem mbn_card (a b : CA) : mbin Tryz.prog 117 .neq (.agg a.c) (.agg b.c) = some (True, .bool (!decide (a = b))) := mb_neq (meq_card 2 a b) pl_card
theorem mbn_edit (a b : ED) : mbin Tryz.prog 29 .neq (.agg a.c) (.agg b.c) = some (True, .bool (!decide (a = b))) := mb_neq (meq_edit 1 a b) pl_edit
theorem mbe_edit (a b : ED) : mbin Tryz.prog 29 .eql (.agg a.c) (.agg b.c) = some (True, .bool (decide (a = b))) := mb_eql (meq_edit 1 a b) pl_edit
theorem mbn_token (a b : TO) : mbin Tryz.prog 34 .neq (.agg a.c) (.agg b.c) = some (True, .bool (!decide (a = b))) := mb_neq (meq_token 4 a b) pl_token
theorem mbe_token (a b : TO) : mbin Tryz.prog 34 .eql (.agg a.c) (.agg b.c) = some (True, .bool (decide (a = b))) := mb_eql (meq_token 4 a b) pl_token
theorem mbn_item (a b : IT) : mbin Tryz.prog 119 .neq (.agg a.k) (.agg b.k) = some (True, .bool (!decide (a = b))) := mb_neq (meq_item 1 a b) pl_item
theorem patchErr_bad {p : PA} {i : Nat} (h0 : ¬ (p.mask.toNat = 0 ∨ 511 < p.mask.toNat)) (h1 : ¬ (65536 ≤ p.lab.toNat ∨ p.lab.toNat ≠ 0 ∧ bit p.mask.toNat 8 = false)) (hi : i < 8) (h : (vaOk (p.f.get i) && (decide ((p.f.get i).kd = 0) || bit p.mask.toNat i)) = false) : patchErr p = 1 := by
  unfold patchErr
  rw [if_neg h0, if_neg h1, if_neg]
  intro hb
  have := List.all_eq_true.1 hb i (List.mem_range.2 hi)
  rw [h] at this
  cases this
theorem patchErr_good {p : PA} (h0 : ¬ (p.mask.toNat = 0 ∨ 511 < p.mask.toNat)) (h1 : ¬ (65536 ≤ p.lab.toNat ∨ p.lab.toNat ≠ 0 ∧ bit p.mask.toNat 8 = false)) (h : ∀ i, i < 8 → (vaOk (p.f.get i) && (decide ((p.f.get i).kd = 0) || bit p.mask.toNat i)) = true) : patchErr p = 0 := by
  unfold patchErr
  rw [if_neg h0, if_neg h1, if_pos]
  exact List.all_eq_true.2 fun i hi => h i (List.mem_range.1 hi)
end Go.Proofs.YtfbodefnblpflaaGreatDoor
end

section
/- Contracts of the program's checks of cards and patches: the conditions that the theorems name. -/
set_option linter.unusedVariables false
set_option linter.unusedSimpArgs false
namespace Go.Proofs.YtfbodefnblpflaaGreatDoor
set_option maxRecDepth 100000
set_option maxHeartbeats 4000000
theorem indexV_call (p : VA → Bool) (g : FuncId) (l : List VA) (hl : l.length ≤ 1000000) (t : Bool) (hg : ∀ x, x ∈ l → MCalls Tryz.prog g [.agg x.c] St.none (fun r _ => r = .bool (p x))) :
    MCalls Tryz.prog 195 [.lst 3 (l.map VA.c) t, .fn (.func g) [] []] St.none (fun r _ => r = .int .i64 (if l.any p then (l.findIdx p : Int) else -1)) := by
  refine (MCalls.body 19 [.tmp 4] Tryz.func195 rfl rfl rfl rfl ?_)
  repeat' (first | (with_reducible first | (refine wT ?_; refine wN fun _ hnl => ?_; revert hnl; (repeat refine wS fun _ _ => ?_); intro hnl) | refine wD (by decide +kernel) ?_ | refine wI (fun h => ?_) fun h => ?_ | refine wF (fun h => ?_) fun h => ?_ | refine wG (fun h => ?_) fun h => ?_ | refine wH (fun h => ?_) fun h => ?_ | ((first | refine mfork_bool (fun h => ?_) fun h => ?_ | refine mgfork_bool (fun h => ?_) fun h => ?_) <;> simp only [h])) | simp (maxSteps := 4000000) (disch := first | decide | assumption | omega | (simp only [wL]; omega)) only [go_sem, simprocAttr, Tryz.f195])
  refine mloop_intro (α := Nat) (fun k => ⟨19, [(8, .int .i64 (k : Int)), (7, .int .i64 (l.length : Int)), (6, .lst 3 (l.map VA.c) t), (0, .lst 3 (l.map VA.c) t), (1, .fn (.func g) [] [])], []⟩) (fun _ => St.none)
    (fun k => k ≤ l.length ∧ (l.take k).any p = false) (fun k => l.length - k) (.of (.less ?_ (St.le_refl _)) ⟨0, rfl, rfl, by simp⟩) ?_
  · simp (maxSteps := 4000000) (disch := first | decide | assumption | omega | (simp only [wL]; omega)) only [go_sem, simprocAttr, weak_int, weak_same]
    all_goals rfl
  · rintro k ⟨h1, h2⟩
    by_cases hk : k < l.length
    · have hgk := hg _ (getD_mem va0 hk)
      cases hp : p (l.getD k va0)
      · rw [hp] at hgk
        repeat' (first | (with_reducible refine use_pure hgk ?_) | (with_reducible first | (refine wT ?_; refine wN fun _ hnl => ?_; revert hnl; (repeat refine wS fun _ _ => ?_); intro hnl) | refine wD (by decide +kernel) ?_ | refine wI (fun h => ?_) fun h => ?_ | refine wF (fun h => ?_) fun h => ?_ | refine wG (fun h => ?_) fun h => ?_ | refine wH (fun h => ?_) fun h => ?_ | ((first | refine mfork_bool (fun h => ?_) fun h => ?_ | refine mgfork_bool (fun h => ?_) fun h => ?_) <;> simp only [h])) | simp (maxSteps := 4000000) (disch := first | decide | assumption | omega | (simp only [wL]; omega)) only [go_sem, simprocAttr, getD_mapd va0])
        refine .of (.less (l1 := [(8, .int .i64 ((k + 1 : Nat) : Int)), (7, .int .i64 (l.length : Int)), (6, .lst 3 (l.map VA.c) t), (0, .lst 3 (l.map VA.c) t), (1, .fn (.func g) [] [])]) ?_ (St.le_refl _)) ⟨k + 1, rfl, rfl, ⟨by omega, ?_⟩, by omega⟩
        · simp (maxSteps := 4000000) (disch := first | decide | assumption | omega | (simp only [wL]; omega)) only [go_sem, simprocAttr, weak_int, weak_same]
          all_goals omega
        · rw [any_take_succ hk, h2, ← getD_of_lt va0 hk, hp]; rfl
      · rw [hp] at hgk
        have hany : l.any p = true := List.any_eq_true.2 ⟨_, getD_mem va0 hk, hp⟩
        have hf : l.findIdx p = k := by
          rw [List.findIdx_eq hk]
          refine ⟨by rw [← getD_of_lt va0 hk]; exact hp, fun j hj => ?_⟩
          have := List.any_eq_false.1 h2 l[j] (by rw [List.mem_take_iff_getElem]; exact ⟨j, by omega, rfl⟩)
          simpa using this
        rw [hany, hf]
        repeat' (first | (with_reducible refine use_pure hgk ?_) | (with_reducible first | (refine wT ?_; refine wN fun _ hnl => ?_; revert hnl; (repeat refine wS fun _ _ => ?_); intro hnl) | refine wD (by decide +kernel) ?_ | refine wI (fun h => ?_) fun h => ?_ | refine wF (fun h => ?_) fun h => ?_ | refine wG (fun h => ?_) fun h => ?_ | refine wH (fun h => ?_) fun h => ?_ | ((first | refine mfork_bool (fun h => ?_) fun h => ?_ | refine mgfork_bool (fun h => ?_) fun h => ?_) <;> simp only [h])) | simp (maxSteps := 4000000) (disch := first | decide | assumption | omega | (simp only [wL]; omega)) only [go_sem, simprocAttr, getD_mapd va0])
    · have : k = l.length := by omega
      subst this
      rw [List.take_length] at h2
      rw [h2]
      repeat' (first | (with_reducible first | (refine wT ?_; refine wN fun _ hnl => ?_; revert hnl; (repeat refine wS fun _ _ => ?_); intro hnl) | refine wD (by decide +kernel) ?_ | refine wI (fun h => ?_) fun h => ?_ | refine wF (fun h => ?_) fun h => ?_ | refine wG (fun h => ?_) fun h => ?_ | refine wH (fun h => ?_) fun h => ?_ | ((first | refine mfork_bool (fun h => ?_) fun h => ?_ | refine mgfork_bool (fun h => ?_) fun h => ?_) <;> simp only [h])) | simp (maxSteps := 4000000) (disch := first | decide | assumption | omega | (simp only [wL]; omega)) only [go_sem, simprocAttr, getD_mapd va0])
theorem containsV_call (p : VA → Bool) (g : FuncId) (l : List VA) (hl : l.length ≤ 1000000) (t : Bool) (hg : ∀ x, x ∈ l → MCalls Tryz.prog g [.agg x.c] St.none (fun r _ => r = .bool (p x))) :
    MCalls Tryz.prog 186 [.lst 3 (l.map VA.c) t, .fn (.func g) [] []] St.none (fun r _ => r = .bool (l.any p)) := by
  refine (MCalls.body 9 [.tmp 4] Tryz.func186 rfl rfl rfl rfl ?_)
  have hi := indexV_call p g l hl t hg
  cases hany : l.any p
  · rw [hany] at hi
    simp only [Bool.false_eq_true, if_false] at hi
    repeat' (first | (with_reducible refine use_pure hi ?_) | (with_reducible first | (refine wT ?_; refine wN fun _ hnl => ?_; revert hnl; (repeat refine wS fun _ _ => ?_); intro hnl) | refine wD (by decide +kernel) ?_ | refine wI (fun h => ?_) fun h => ?_ | refine wF (fun h => ?_) fun h => ?_ | refine wG (fun h => ?_) fun h => ?_ | refine wH (fun h => ?_) fun h => ?_ | ((first | refine mfork_bool (fun h => ?_) fun h => ?_ | refine mgfork_bool (fun h => ?_) fun h => ?_) <;> simp only [h])) | simp (maxSteps := 4000000) (disch := first | decide | assumption | omega | (simp only [wL]; omega)) only [go_sem, simprocAttr, Tryz.f186])
  · rw [hany] at hi
    simp only [if_true] at hi
    repeat' (first | (with_reducible refine use_pure hi ?_) | (with_reducible first | (refine wT ?_; refine wN fun _ hnl => ?_; revert hnl; (repeat refine wS fun _ _ => ?_); intro hnl) | refine wD (by decide +kernel) ?_ | refine wI (fun h => ?_) fun h => ?_ | refine wF (fun h => ?_) fun h => ?_ | refine wG (fun h => ?_) fun h => ?_ | refine wH (fun h => ?_) fun h => ?_ | ((first | refine mfork_bool (fun h => ?_) fun h => ?_ | refine mgfork_bool (fun h => ?_) fun h => ?_) <;> simp only [h])) | simp (maxSteps := 4000000) (disch := first | decide | assumption | omega | (simp only [wL]; omega)) only [go_sem, simprocAttr, Tryz.f186])
    simp
theorem chunks_va : ∀ (l : List VA), chunks 3 l.length ((l.map VA.c).flatten) = l.map VA.c
  | [] => rfl
  | v :: l => by
    simp only [List.map_cons, List.flatten_cons, List.length_cons, chunks, List.cons_append, List.nil_append, List.take_succ_cons, List.take_zero, List.drop_succ_cons, List.drop_zero]
    rw [chunks_va l]
theorem chunks_fc (f : F8) : chunks 3 8 (fc f) = f.l.map VA.c := by
  have := chunks_va f.l
  rwa [f.h] at this
theorem shr16 (n : Nat) : ((n : Int)).fdiv (2 ^ min 16 32) = ((n / 65536 : Nat) : Int) := by
  rw [show (2 : Int) ^ min 16 32 = 65536 by decide, Int.fdiv_eq_ediv_of_nonneg _ (by decide)]
  omega
theorem pccheck1_call (v : VA) : MCalls Tryz.prog 187 [.agg v.c] St.none (fun r _ => r = .bool (!vaOk v)) := by
  refine MCalls.drops (MCalls.body 6 [.tmp 2] Tryz.func187 rfl rfl rfl rfl ?_)
  have h := vcheck_call v.kd v.n v.s
  repeat' (first | (with_reducible first | refine up h ?_) | (with_reducible first | (refine wT ?_; refine wN fun _ hnl => ?_; revert hnl; (repeat refine wS fun _ _ => ?_); intro hnl) | refine wD (by decide +kernel) ?_ | refine wI (fun h => ?_) fun h => ?_ | refine wF (fun h => ?_) fun h => ?_ | refine wG (fun h => ?_) fun h => ?_ | refine wH (fun h => ?_) fun h => ?_ | ((first | refine mfork_bool (fun h => ?_) fun h => ?_ | refine mgfork_bool (fun h => ?_) fun h => ?_) <;> simp only [h])) | simp (maxSteps := 4000000) (disch := first | decide | assumption | omega | (simp only [wL]; omega)) only [go_sem, simprocAttr, Tryz.f187])
  all_goals first | exact ⟨_, St.le_refl _, rfl⟩ | exact ⟨_, St.le_refl _⟩
theorem any_not {α : Type} (p : α → Bool) (l : List α) : (!(l.any fun x => !p x)) = l.all p := by
  induction l with
  | nil => rfl
  | cons x l ih => simp only [List.any_cons, List.all_cons, Bool.not_or, Bool.not_not, ih]
theorem pccheck_call (c : CA) : MCalls Tryz.prog 165 [.agg c.c] St.none (fun r _ => r = .bool (cardOk c)) := by
  refine MCalls.drops (MCalls.of_body 31 [.tmp 2] Tryz.func165 rfl rfl rfl rfl ?_)
  have hlt := c.lab.toNat_lt
  have hsh := shr16 c.lab.toNat
  by_cases h : 1 ≤ c.id ∧ c.id < idMax ∧ 1 ≤ c.ver ∧ c.ver ≤ big ∧ c.lab.toNat < 65536
  · have e : cardOk c = !(c.f.l.any fun v => !vaOk v) := by unfold cardOk; rw [decide_eq_true h, Bool.true_and, any_not]
    rw [e]
    obtain ⟨h1, h2, h3, h4, h5⟩ := h
    unfold idMax at h2
    unfold big at h4
    have hdv : c.lab.toNat / 65536 = 0 := by omega
    rw [hdv] at hsh
    have hc := containsV_call (fun v => !vaOk v) 187 c.f.l (by rw [c.f.h]; decide) true (fun v _ => pccheck1_call v)
    refine mwp_seq (mwalk ?_)
    repeat' (first | (with_reducible first | (refine wT ?_; (first | ((fail_if_success (have := nl1)); refine wN fun nl1 hnl => ?_) | refine wN fun _ hnl => ?_); revert hnl; (repeat refine wS fun _ _ => ?_); intro hnl) | refine wD (by decide +kernel) ?_ | refine wI (fun h => ?_) fun h => ?_ | refine wF (fun h => ?_) fun h => ?_ | refine wG (fun h => ?_) fun h => ?_ | refine wH (fun h => ?_) fun h => ?_ | ((first | refine mfork_bool (fun h => ?_) fun h => ?_ | refine mgfork_bool (fun h => ?_) fun h => ?_) <;> simp only [h])) | simp (maxSteps := 4000000) (disch := first | decide | assumption | omega | (simp only [wL]; omega)) only [go_sem, simprocAttr, Tryz.f165, fc_len, fc_cell])
    refine R_of (mwp_seq (mwalk ?_))
    repeat' (first | (with_reducible first | (refine wT ?_; (first | ((fail_if_success (have := nl1)); refine wN fun nl1 hnl => ?_) | refine wN fun _ hnl => ?_); revert hnl; (repeat refine wS fun _ _ => ?_); intro hnl) | refine wD (by decide +kernel) ?_ | refine wI (fun h => ?_) fun h => ?_ | refine wF (fun h => ?_) fun h => ?_ | refine wG (fun h => ?_) fun h => ?_ | refine wH (fun h => ?_) fun h => ?_ | ((first | refine mfork_bool (fun h => ?_) fun h => ?_ | refine mgfork_bool (fun h => ?_) fun h => ?_) <;> simp only [h])) | simp (maxSteps := 4000000) (disch := first | decide | assumption | omega | (simp only [wL]; omega)) only [go_sem, simprocAttr, fc_len, fc_cell, hsh])
    refine R_of (mwp_gh (.step (Ghost.freeze (l1 := [(1, .cptr c.c)]) (σ1 := St.none) (St.none.set nl1 (.row 117 27 [c.c])) (St.le_refl _) (St.none_le _) (fun k o hk => by simp [St.none] at hk) (fun p hp => ?_)) (.done (mwalk ?_))))
    · simp only [List.mem_singleton] at hp
      subst hp
      exact .ptr (set_hit _ _ _) (by simp)
    · repeat' (first | (with_reducible first | refine up hc ?_) | (with_reducible first | (refine wT ?_; (first | ((fail_if_success (have := nl1)); refine wN fun nl1 hnl => ?_) | refine wN fun _ hnl => ?_); revert hnl; (repeat refine wS fun _ _ => ?_); intro hnl) | refine wD (by decide +kernel) ?_ | refine wI (fun h => ?_) fun h => ?_ | refine wF (fun h => ?_) fun h => ?_ | refine wG (fun h => ?_) fun h => ?_ | refine wH (fun h => ?_) fun h => ?_ | ((first | refine mfork_bool (fun h => ?_) fun h => ?_ | refine mgfork_bool (fun h => ?_) fun h => ?_) <;> simp only [h])) | simp (maxSteps := 4000000) (disch := first | decide | assumption | omega | (simp only [wL]; omega)) only [go_sem, simprocAttr, fc_len, fc_cell, fc_take', chunks_fc])
      all_goals first | exact ⟨_, St.le_refl _, rfl⟩ | exact ⟨_, St.le_refl _⟩
  · have e : cardOk c = false := by unfold cardOk; rw [decide_eq_false h, Bool.false_and]
    rw [e]
    unfold idMax big at h
    refine mwp_seq (mwalk ?_)
    repeat' (first | (with_reducible first | (refine wT ?_; (first | ((fail_if_success (have := nl1)); refine wN fun nl1 hnl => ?_) | refine wN fun _ hnl => ?_); revert hnl; (repeat refine wS fun _ _ => ?_); intro hnl) | refine wD (by decide +kernel) ?_ | refine wI (fun h => ?_) fun h => ?_ | refine wF (fun h => ?_) fun h => ?_ | refine wG (fun h => ?_) fun h => ?_ | refine wH (fun h => ?_) fun h => ?_ | ((first | refine mfork_bool (fun h => ?_) fun h => ?_ | refine mgfork_bool (fun h => ?_) fun h => ?_) <;> simp only [h])) | simp (maxSteps := 4000000) (disch := first | decide | assumption | omega | (simp only [wL]; omega)) only [go_sem, simprocAttr, Tryz.f165, fc_len, fc_cell])
    refine R_of (mwp_seq (mwalk ?_))
    repeat' (first | (with_reducible first | (refine wT ?_; (first | ((fail_if_success (have := nl1)); refine wN fun nl1 hnl => ?_) | refine wN fun _ hnl => ?_); revert hnl; (repeat refine wS fun _ _ => ?_); intro hnl) | refine wD (by decide +kernel) ?_ | refine wI (fun h => ?_) fun h => ?_ | refine wF (fun h => ?_) fun h => ?_ | refine wG (fun h => ?_) fun h => ?_ | refine wH (fun h => ?_) fun h => ?_ | ((first | refine mfork_bool (fun h => ?_) fun h => ?_ | refine mgfork_bool (fun h => ?_) fun h => ?_) <;> simp only [h])) | simp (maxSteps := 4000000) (disch := first | decide | assumption | omega | (simp only [wL]; omega)) only [go_sem, simprocAttr, fc_len, fc_cell, hsh])
    all_goals first | exact ⟨_, St.le_refl _, rfl⟩ | exact ⟨_, St.le_refl _⟩ | (exfalso; omega)
theorem pl_value : eqPlain Tryz.prog 24 = true := by decide +kernel
theorem mbn_value (a b : VA) : mbin Tryz.prog 24 .neq (.agg a.c) (.agg b.c) = some (True, .bool (!decide (a = b))) := mb_neq (meq_val 4 a b) pl_value
theorem shr_bit (m : UInt32) (i : Nat) (h : i < 8) : andK .u32 ((m.toNat : Int).fdiv (2 ^ min i 32)) 1 = if bit m.toNat i = true then 1 else 0 := by
  rw [Nat.min_eq_left (by omega), show (2 : Int) ^ i = ((2 ^ i : Nat) : Int) by simp, Int.fdiv_eq_ediv_of_nonneg _ (Int.natCast_nonneg _)]
  rw [show (m.toNat : Int) / ((2 ^ i : Nat) : Int) = ((m.toNat / 2 ^ i : Nat) : Int) by simp]
  have hm := m.toNat_lt
  have e : andK .u32 ((m.toNat / 2 ^ i : Nat) : Int) 1 = _ := and32 (m.toNat / 2 ^ i) 1 (Nat.lt_of_le_of_lt (Nat.div_le_self _ _) hm) (by decide)
  rw [e, Nat.and_one_is_mod]
  unfold bit
  rw [Nat.testBit_eq_decide_div_mod_eq]
  have := Nat.mod_two_eq_zero_or_one (m.toNat / 2 ^ i)
  rcases this with h | h <;> rw [h] <;> rfl
theorem pcpatch_call (p : PA) : MCalls Tryz.prog 100 [.agg p.c] St.none (fun r _ => r = .int .i64 (patchErr p)) := by
  refine MCalls.drops (MCalls.body 55 [.tmp 2] Tryz.func100 rfl rfl rfl rfl ?_)
  have hm := pmcheck_call p.mask
  have hl := pmlab_call p.mask
  have hmt := p.mask.toNat_lt
  have hlt := p.lab.toNat_lt
  have hsh := shr16 p.lab.toNat
  by_cases h0 : p.mask.toNat = 0 ∨ 511 < p.mask.toNat
  · have e : patchErr p = 11 := by unfold patchErr; rw [if_pos h0]
    rw [e]
    repeat' (first | (with_reducible first | refine up hm ?_ | refine up hl ?_) | (with_reducible first | (refine wT ?_; (first | ((fail_if_success (have := nl1)); refine wN fun nl1 hnl => ?_) | refine wN fun _ hnl => ?_); revert hnl; (repeat refine wS fun _ _ => ?_); intro hnl) | refine wD (by decide +kernel) ?_ | refine wI (fun h => ?_) fun h => ?_ | refine wF (fun h => ?_) fun h => ?_ | refine wG (fun h => ?_) fun h => ?_ | refine wH (fun h => ?_) fun h => ?_ | ((first | refine mfork_bool (fun h => ?_) fun h => ?_ | refine mgfork_bool (fun h => ?_) fun h => ?_) <;> simp only [h])) | simp (maxSteps := 4000000) (disch := first | decide | assumption | omega | (simp only [wL]; omega)) only [go_sem, simprocAttr, Tryz.f100, fc_len, fc_cell])
    all_goals first | exact ⟨_, St.le_refl _, rfl⟩ | exact ⟨_, St.le_refl _⟩ | (exfalso; omega)
  · by_cases h1 : 65536 ≤ p.lab.toNat ∨ p.lab.toNat ≠ 0 ∧ bit p.mask.toNat 8 = false
    · have e : patchErr p = 1 := by unfold patchErr; rw [if_neg h0, if_pos h1]
      rw [e]
      generalize bit p.mask.toNat 8 = b8 at hl h1
      cases b8
      all_goals
        repeat' (first | (with_reducible first | refine up hm ?_ | refine up hl ?_) | (with_reducible first | (refine wT ?_; (first | ((fail_if_success (have := nl1)); refine wN fun nl1 hnl => ?_) | refine wN fun _ hnl => ?_); revert hnl; (repeat refine wS fun _ _ => ?_); intro hnl) | refine wD (by decide +kernel) ?_ | refine wI (fun h => ?_) fun h => ?_ | refine wF (fun h => ?_) fun h => ?_ | refine wG (fun h => ?_) fun h => ?_ | refine wH (fun h => ?_) fun h => ?_ | ((first | refine mfork_bool (fun h => ?_) fun h => ?_ | refine mgfork_bool (fun h => ?_) fun h => ?_) <;> simp only [h])) | simp (maxSteps := 4000000) (disch := first | decide | assumption | omega | (simp only [wL]; omega)) only [go_sem, simprocAttr, Tryz.f100, fc_len, fc_cell, hsh])
        all_goals first | exact ⟨_, St.le_refl _, rfl⟩ | exact ⟨_, St.le_refl _⟩ | (exfalso; simp only [reduceCtorEq, and_false, or_false, and_true] at h1; omega)
    · have hbad := fun i => patchErr_bad (i := i) h0 h1
      have hgood := patchErr_good h0 h1
      have h1' : p.lab.toNat < 65536 := by omega
      have h1'' : p.lab.toNat = 0 ∨ bit p.mask.toNat 8 = true := by
        cases hb : bit p.mask.toNat 8
        · rw [hb] at h1; left; simp at h1; omega
        · right; rfl
      clear h1
      generalize bit p.mask.toNat 8 = b8 at hl h1''
      cases b8
      all_goals
        repeat' (first | (with_reducible first | refine up hm ?_ | refine up hl ?_) | (with_reducible first | (refine wT ?_; (first | ((fail_if_success (have := nl1)); refine wN fun nl1 hnl => ?_) | refine wN fun _ hnl => ?_); revert hnl; (repeat refine wS fun _ _ => ?_); intro hnl) | refine wD (by decide +kernel) ?_ | refine wI (fun h => ?_) fun h => ?_ | refine wF (fun h => ?_) fun h => ?_ | refine wG (fun h => ?_) fun h => ?_ | refine wH (fun h => ?_) fun h => ?_ | ((first | refine mfork_bool (fun h => ?_) fun h => ?_ | refine mgfork_bool (fun h => ?_) fun h => ?_) <;> simp only [h])) | simp (maxSteps := 4000000) (disch := first | decide | assumption | omega | (simp only [wL]; omega)) only [go_sem, simprocAttr, Tryz.f100, fc_len, fc_cell, fc_take', hsh])
        all_goals try (exfalso; simp only [reduceCtorEq, or_false] at h1''; omega)
        all_goals
          refine mloop_intro (α := Nat) (fun i => ⟨55, [(33, .int .i64 (i : Int)), (32, .agg (fc p.f)), (1, .ptr nl1 0 0)], []⟩) (fun _ => St.none.set nl1 (.row 27 26 [p.c])) (fun i => i ≤ 8 ∧ ∀ j, j < i → (vaOk (p.f.get j) && (decide ((p.f.get j).kd = 0) || bit p.mask.toNat j)) = true) (fun i => 8 - i) (.of (.less ?_ (St.le_refl _)) ⟨0, rfl, rfl, Nat.zero_le _, fun j h => absurd h (Nat.not_lt_zero _)⟩) ?_
          · simp (maxSteps := 4000000) (disch := first | decide | assumption | omega | (simp only [wL]; omega)) only [go_sem, simprocAttr, weak_int, weak_same]
            all_goals rfl
          · rintro i ⟨hi, hq⟩
            by_cases h8 : i < 8
            · have hc := vcheck_call (p.f.get i).kd (p.f.get i).n (p.f.get i).s
              have hbad := hbad i h8
              have hsb := shr_bit p.mask i h8
              have hv : mbin Tryz.prog 24 .neq (.agg (p.f.get i).c) (.agg [.int .i64 0, .int .i64 0, .str ⟨#[]⟩]) = some (True, .bool (!decide (p.f.get i = va0))) := mbn_value (p.f.get i) va0
              have hz : vaOk (p.f.get i) = true → decide (p.f.get i = va0) = decide ((p.f.get i).kd = 0) := fun hok => by
                refine decide_eq_decide.mpr ⟨fun h => by rw [h]; rfl, fun h => va_zero hok h⟩
              obtain ⟨x, hx⟩ : ∃ x, p.f.get i = x := ⟨_, rfl⟩
              have hat := fc_at (f := p.f) h8
              rw [hx] at hc hbad hv hz hat
              obtain ⟨bx, hbx⟩ : ∃ b, bit p.mask.toNat i = b := ⟨_, rfl⟩
              rw [hbx] at hbad hsb
              cases hok : vaOk x <;> (have hc : MCalls Tryz.prog 151 [.agg x.c] St.none (fun r _ => r = .bool (vaOk x)) := hc) <;> rw [hok] at hc hbad hz
              · rw [hbad (Bool.false_and _)]
                clear hbad hgood hq hz
                repeat' (first | (with_reducible first | refine up hc ?_) | (with_reducible first | (refine wT ?_; (first | ((fail_if_success (have := nl1)); refine wN fun nl1 hnl => ?_) | refine wN fun _ hnl => ?_); revert hnl; (repeat refine wS fun _ _ => ?_); intro hnl) | refine wD (by decide +kernel) ?_ | refine wI (fun h => ?_) fun h => ?_ | refine wF (fun h => ?_) fun h => ?_ | refine wG (fun h => ?_) fun h => ?_ | refine wH (fun h => ?_) fun h => ?_ | ((first | refine mfork_bool (fun h => ?_) fun h => ?_ | refine mgfork_bool (fun h => ?_) fun h => ?_) <;> simp only [h])) | simp (maxSteps := 4000000) (disch := first | decide | assumption | omega | (simp only [wL]; omega)) only [go_sem, simprocAttr, fc_len, fc_cell, fc_take', hat])
                all_goals first | exact ⟨_, St.le_refl _, rfl⟩ | exact ⟨_, St.le_refl _⟩
              · rw [hz rfl] at hv
                obtain ⟨bk, hbk⟩ : ∃ b, decide (x.kd = 0) = b := ⟨_, rfl⟩
                rw [hbk] at hv hbad
                cases hgg : (bk || bx)
                · rw [hbad (by rw [hgg]; rfl)]
                  clear hbad hgood hq hz
                  simp only [Bool.or_eq_false_iff] at hgg
                  obtain ⟨rfl, rfl⟩ := hgg
                  rw [if_neg (by simp)] at hsb
                  repeat' (first | (with_reducible first | refine up hc ?_) | (with_reducible first | (refine wT ?_; (first | ((fail_if_success (have := nl1)); refine wN fun nl1 hnl => ?_) | refine wN fun _ hnl => ?_); revert hnl; (repeat refine wS fun _ _ => ?_); intro hnl) | refine wD (by decide +kernel) ?_ | refine wI (fun h => ?_) fun h => ?_ | refine wF (fun h => ?_) fun h => ?_ | refine wG (fun h => ?_) fun h => ?_ | refine wH (fun h => ?_) fun h => ?_ | ((first | refine mfork_bool (fun h => ?_) fun h => ?_ | refine mgfork_bool (fun h => ?_) fun h => ?_) <;> simp only [h])) | simp (maxSteps := 4000000) (disch := first | decide | assumption | omega | (simp only [wL]; omega)) only [go_sem, simprocAttr, fc_len, fc_cell, fc_take', hat, hv, hsb])
                  all_goals first | exact ⟨_, St.le_refl _, rfl⟩ | exact ⟨_, St.le_refl _⟩
                · clear hbad hgood hz
                  have hnext : ∀ j, j < i + 1 → (vaOk (p.f.get j) && (decide ((p.f.get j).kd = 0) || bit p.mask.toNat j)) = true := fun j hj => by
                    by_cases hji : j = i
                    · rw [hji, hx, hok, hbk, hbx, hgg]; rfl
                    · exact hq j (by omega)
                  clear hq
                  cases bk <;> cases bx
                  · simp at hgg
                  all_goals
                    simp only [if_true, Bool.false_eq_true, if_false] at hsb
                    repeat' (first | (with_reducible first | refine up hc ?_) | (with_reducible first | (refine wT ?_; (first | ((fail_if_success (have := nl1)); refine wN fun nl1 hnl => ?_) | refine wN fun _ hnl => ?_); revert hnl; (repeat refine wS fun _ _ => ?_); intro hnl) | refine wD (by decide +kernel) ?_ | refine wI (fun h => ?_) fun h => ?_ | refine wF (fun h => ?_) fun h => ?_ | refine wG (fun h => ?_) fun h => ?_ | refine wH (fun h => ?_) fun h => ?_ | ((first | refine mfork_bool (fun h => ?_) fun h => ?_ | refine mgfork_bool (fun h => ?_) fun h => ?_) <;> simp only [h])) | simp (maxSteps := 4000000) (disch := first | decide | assumption | omega | (simp only [wL]; omega)) only [go_sem, simprocAttr, fc_len, fc_cell, fc_take', hat, hv, hsb])
                    all_goals
                      refine .of (.less ?_ (St.set_le (St.none_le _) (by simp [St.set, *]))) ⟨i + 1, rfl, rfl, ⟨by omega, hnext⟩, by omega⟩
                      simp (maxSteps := 4000000) (disch := first | decide | assumption | omega | (simp only [wL]; omega)) only [go_sem, simprocAttr, weak_int, weak_same]
                      all_goals rfl
            · have : i = 8 := by omega
              subst this
              rw [hgood hq]
              repeat' (first | (with_reducible first | (refine wT ?_; (first | ((fail_if_success (have := nl1)); refine wN fun nl1 hnl => ?_) | refine wN fun _ hnl => ?_); revert hnl; (repeat refine wS fun _ _ => ?_); intro hnl) | refine wD (by decide +kernel) ?_ | refine wI (fun h => ?_) fun h => ?_ | refine wF (fun h => ?_) fun h => ?_ | refine wG (fun h => ?_) fun h => ?_ | refine wH (fun h => ?_) fun h => ?_ | ((first | refine mfork_bool (fun h => ?_) fun h => ?_ | refine mgfork_bool (fun h => ?_) fun h => ?_) <;> simp only [h])) | simp (maxSteps := 4000000) (disch := first | decide | assumption | omega | (simp only [wL]; omega)) only [go_sem, simprocAttr])
              all_goals first | exact ⟨_, St.le_refl _, rfl⟩ | exact ⟨_, St.le_refl _⟩
end Go.Proofs.YtfbodefnblpflaaGreatDoor
end

section
/- Contracts of the program's numbers, texts and truths as bytes: the conditions that the theorems name. -/
set_option linter.unusedVariables false
set_option linter.unusedSimpArgs false
namespace Go.Proofs.YtfbodefnblpflaaGreatDoor
theorem view_row {σ : St} {q n : Nat} {t : TypeId} {xs ex : List (List MV)} (h : σ q = some (.row t 1 (xs ++ ex))) (hn : n = xs.length) : View σ (.vec 1 q 0 n) (.lst 1 xs false) := by
  have := View.vec (lo := 0) (n := n) h (by rw [List.length_append]; omega)
  rwa [List.drop_zero, hn, List.take_append_of_le_length (Nat.le_refl _), List.take_length, ← hn] at this
theorem shr7 (v : Nat) : (v : Int).fdiv (2 ^ (min (7 : Int).toNat IntKind.i64.bits)) = ((v / 128 : Nat) : Int) := by
  have e : (2 : Int) ^ (min (7 : Int).toNat IntKind.i64.bits) = 128 := by decide
  rw [e, Int.fdiv_eq_ediv_of_nonneg _ (by decide)]
  rfl
theorem shr7' (v : Nat) : (v : Int).fdiv (2 ^ (min 7 64)) = ((v / 128 : Nat) : Int) := shr7 v
theorem bc_one {n : Nat} (h : n < 256) : ([[MV.int .u8 (n : Int)]] : List (List MV)) = [UInt8.ofNat n].map bc := by rw [bc_of h]; rfl
def bnV (bs : BL) : BL → Nat → MV
  | [], _ => .lst 1 (bs.map bc) true
  | p :: pre, q => .vec 1 q 0 (bs.length + (p :: pre).length)
def bnS (bs : BL) : BL → Nat → List (List MV) → St
  | [], _, _ => St.none
  | p :: pre, q, ex => St.none.set q (.row 5 1 ((bs ++ p :: pre).map bc ++ ex))
set_option maxHeartbeats 1000000 in
theorem pnum_own (bs : BL) (hb : bs.length ≤ 1000000) (t : Bool) (n : Int) : MCalls Tryz.prog 21 [.lst 1 (bs.map bc) t, .int .i64 n] St.none (fun r σ' => ∃ q ex, r = .vec 1 q 0 (bs ++ numB n).length ∧ σ' = St.none.set q (.row 5 1 ((bs ++ numB n).map bc ++ ex))) := by
  refine MCalls.drops (MCalls.body 30 [.tmp 4] Tryz.func21 rfl rfl rfl rfl ?_)
  repeat' (first | (with_reducible first | (refine wT ?_; (first | ((fail_if_success (have := nl1)); refine wN fun nl1 hnl => ?_) | ((fail_if_success (have := nl2)); refine wN fun nl2 hnl => ?_) | refine wN fun _ hnl => ?_); revert hnl; (repeat refine wS fun _ _ => ?_); intro hnl) | refine wD (by decide +kernel) ?_ | refine wI (fun h => ?_) fun h => ?_ | refine wF (fun h => ?_) fun h => ?_ | refine wG (fun h => ?_) fun h => ?_ | refine wH (fun h => ?_) fun h => ?_ | ((first | refine mfork_bool (fun h => ?_) fun h => ?_ | refine mgfork_bool (fun h => ?_) fun h => ?_) <;> simp only [h])) | simp (maxSteps := 4000000) (disch := first | decide | assumption | omega | (simp only [wL]; omega)) only [go_sem, simprocAttr, Tryz.f21])
  refine mloop_intro (α := Nat × Nat × BL × Nat × List (List MV)) (fun a => ⟨30, [(5, .int .i64 (a.2.1 : Int)), (0, bnV bs a.2.2.1 a.2.2.2.1)], []⟩) (fun a => bnS bs a.2.2.1 a.2.2.2.1 a.2.2.2.2) (fun a => a.2.1 < 128 ^ (a.1 + 1) ∧ numB n = a.2.2.1 ++ numF a.1 a.2.1 ∧ a.2.2.1.length + a.1 ≤ 5) (fun a => a.1) ?_ ?_
  · refine .of (.less ?_ (St.le_refl _)) ⟨(5, (min (max n 0) big).toNat, [], 0, []), rfl, rfl, ⟨by simp only; rw [pow128]; unfold big; omega, rfl, Nat.le_refl _⟩⟩
    simp (maxSteps := 4000000) (disch := first | decide | assumption | omega | (simp only [wL]; omega)) only [go_sem, simprocAttr, weak_int, weak_same]
    refine ⟨by unfold big; split <;> split <;> omega, ?_⟩
    rw [List.take_length]; exact .same _
  · rintro ⟨k, v, pre, q, ex⟩ ⟨h1, h2, h3⟩
    simp only at h1 h2 h3 ⊢
    have hv : v ≤ 4398046511104 := by
      have : 128 ^ (k + 1) ≤ 128 ^ (5 + 1) := Nat.pow_le_pow_right (by decide) (by omega)
      rw [pow128] at this; omega
    have h7 := shr7' v
    have h8 := or8 v
    have hm := Nat.mod_lt v (show 0 < 128 by decide)
    have hc := bc_one (show v % 128 + 128 < 256 by omega)
    cases pre with
    | nil =>
      simp only [bnV, bnS, List.length_nil, List.nil_append] at h2 h3 ⊢
      by_cases h128 : 128 ≤ v
      · cases k with
        | zero => simp at h1; omega
        | succ k =>
          rw [numF, if_neg (by omega)] at h2
          repeat' (first | (with_reducible first | (refine wT ?_; (first | ((fail_if_success (have := nl1)); refine wN fun nl1 hnl => ?_) | ((fail_if_success (have := nl2)); refine wN fun nl2 hnl => ?_) | refine wN fun _ hnl => ?_); revert hnl; (repeat refine wS fun _ _ => ?_); intro hnl) | refine wD (by decide +kernel) ?_ | refine wI (fun h => ?_) fun h => ?_ | refine wF (fun h => ?_) fun h => ?_ | refine wG (fun h => ?_) fun h => ?_ | refine wH (fun h => ?_) fun h => ?_ | ((first | refine mfork_bool (fun h => ?_) fun h => ?_ | refine mgfork_bool (fun h => ?_) fun h => ?_) <;> simp only [h])) | simp (maxSteps := 4000000) (disch := first | decide | assumption | omega | (simp only [wL]; omega)) only [go_sem, simprocAttr, h7, h8, or_true, hc])
          refine .of (.less ?_ (σ1 := bnS bs [UInt8.ofNat (v % 128 + 128)] nl2 []) (St.set_le (St.none_le _) ((set_hit _ _ _).trans (by simp)))) ⟨(k, v / 128, [UInt8.ofNat (v % 128 + 128)], nl2, []), rfl, rfl, ⟨by simp only; rw [Nat.pow_succ] at h1; omega, h2, by simp only [List.length_cons, List.length_nil]; omega⟩, by simp only; omega⟩
          simp (maxSteps := 4000000) (disch := first | decide | assumption | omega | (simp only [wL]; omega)) only [go_sem, simprocAttr, weak_int, weak_same]
          all_goals first | rfl | exact .same _
      · have e : numF k v = [UInt8.ofNat v] := by cases k <;> simp only [numF] <;> rw [if_pos (by omega)]
        rw [e] at h2
        have hc2 := bc_one (show v < 256 by omega)
        repeat' (first | (with_reducible first | (refine wT ?_; (first | ((fail_if_success (have := nl1)); refine wN fun nl1 hnl => ?_) | ((fail_if_success (have := nl2)); refine wN fun nl2 hnl => ?_) | refine wN fun _ hnl => ?_); revert hnl; (repeat refine wS fun _ _ => ?_); intro hnl) | refine wD (by decide +kernel) ?_ | refine wI (fun h => ?_) fun h => ?_ | refine wF (fun h => ?_) fun h => ?_ | refine wG (fun h => ?_) fun h => ?_ | refine wH (fun h => ?_) fun h => ?_ | ((first | refine mfork_bool (fun h => ?_) fun h => ?_ | refine mgfork_bool (fun h => ?_) fun h => ?_) <;> simp only [h])) | simp (maxSteps := 4000000) (disch := first | decide | assumption | omega | (simp only [wL]; omega)) only [go_sem, simprocAttr, h7, h8, or_true, hc2])
        exact ⟨St.none.set nl2 (.row 5 1 ((bs ++ numB n).map bc ++ [])), St.set_le (St.none_le _) ((set_hit _ _ _).trans (by rw [h2]; simp)), nl2, [], by rw [h2]; simp, rfl⟩
    | cons p pre =>
      simp only [bnV, bnS, List.length_cons] at h3 ⊢
      have htk : List.take (bs.length + (pre.length + 1)) (List.map bc (bs ++ p :: pre) ++ ex) = List.map bc (bs ++ p :: pre) := by
        rw [List.take_append_of_le_length (by simp), List.take_of_length_le (by simp)]
      have hdr : List.drop (bs.length + (pre.length + 1) + 1) (List.map bc (bs ++ p :: pre) ++ ex) = ex.drop 1 := by
        rw [List.drop_append, List.drop_eq_nil_of_le (by simp), List.nil_append]
        congr 1
        simp
      by_cases h128 : 128 ≤ v
      · cases k with
        | zero => simp at h1; omega
        | succ k =>
          rw [numF, if_neg (by omega)] at h2
          repeat' (first | (with_reducible first | (refine wT ?_; (first | ((fail_if_success (have := nl1)); refine wN fun nl1 hnl => ?_) | ((fail_if_success (have := nl2)); refine wN fun nl2 hnl => ?_) | refine wN fun _ hnl => ?_); revert hnl; (repeat refine wS fun _ _ => ?_); intro hnl) | refine wD (by decide +kernel) ?_ | refine wI (fun h => ?_) fun h => ?_ | refine wF (fun h => ?_) fun h => ?_ | refine wG (fun h => ?_) fun h => ?_ | refine wH (fun h => ?_) fun h => ?_ | ((first | refine mfork_bool (fun h => ?_) fun h => ?_ | refine mgfork_bool (fun h => ?_) fun h => ?_) <;> simp only [h])) | simp (maxSteps := 4000000) (disch := first | decide | assumption | omega | (simp only [wL]; omega)) only [go_sem, simprocAttr, h7, h8, hc, htk, hdr])
          · have hex : ex = [] := List.eq_nil_of_length_eq_zero (by omega)
            subst hex
            refine .of (.less ?_ (σ1 := bnS bs (p :: (pre ++ [UInt8.ofNat (v % 128 + 128)])) nl2 []) (St.set_le (St.none_le _) ((set_hit _ _ _).trans (by simp)))) ⟨(k, v / 128, p :: (pre ++ [UInt8.ofNat (v % 128 + 128)]), nl2, []), rfl, rfl, ⟨by simp only; rw [Nat.pow_succ] at h1; omega, by rw [h2]; simp, by simp; omega⟩, by simp only; omega⟩
            simp (maxSteps := 4000000) (disch := first | decide | assumption | omega | (simp only [wL]; omega)) only [go_sem, simprocAttr, weak_int, weak_same]
            all_goals first | rfl | (simp [bnV, Nat.add_assoc]; exact .same _)
          · refine .of (.less ?_ (σ1 := bnS bs (p :: (pre ++ [UInt8.ofNat (v % 128 + 128)])) nl2 (ex.drop 1)) (St.set_le (St.none_le _) ((set_hit _ _ _).trans (by simp)))) ⟨(k, v / 128, p :: (pre ++ [UInt8.ofNat (v % 128 + 128)]), nl2, ex.drop 1), rfl, rfl, ⟨by simp only; rw [Nat.pow_succ] at h1; omega, by rw [h2]; simp, by simp; omega⟩, by simp only; omega⟩
            simp (maxSteps := 4000000) (disch := first | decide | assumption | omega | (simp only [wL]; omega)) only [go_sem, simprocAttr, weak_int, weak_same]
            all_goals first | rfl | (simp [bnV, Nat.add_assoc]; exact .same _)
      · have e : numF k v = [UInt8.ofNat v] := by cases k <;> simp only [numF] <;> rw [if_pos (by omega)]
        rw [e] at h2
        have hc2 := bc_one (show v < 256 by omega)
        repeat' (first | (with_reducible first | (refine wT ?_; (first | ((fail_if_success (have := nl1)); refine wN fun nl1 hnl => ?_) | ((fail_if_success (have := nl2)); refine wN fun nl2 hnl => ?_) | refine wN fun _ hnl => ?_); revert hnl; (repeat refine wS fun _ _ => ?_); intro hnl) | refine wD (by decide +kernel) ?_ | refine wI (fun h => ?_) fun h => ?_ | refine wF (fun h => ?_) fun h => ?_ | refine wG (fun h => ?_) fun h => ?_ | refine wH (fun h => ?_) fun h => ?_ | ((first | refine mfork_bool (fun h => ?_) fun h => ?_ | refine mgfork_bool (fun h => ?_) fun h => ?_) <;> simp only [h])) | simp (maxSteps := 4000000) (disch := first | decide | assumption | omega | (simp only [wL]; omega)) only [go_sem, simprocAttr, h7, h8, hc2, htk, hdr])
        · have hex : ex = [] := List.eq_nil_of_length_eq_zero (by omega)
          subst hex
          exact ⟨St.none.set nl2 (.row 5 1 ((bs ++ numB n).map bc ++ [])), St.set_le (St.none_le _) ((set_hit _ _ _).trans (by rw [h2]; simp)), nl2, [], by rw [h2]; simp [Nat.add_assoc], rfl⟩
        · exact ⟨St.none.set nl2 (.row 5 1 ((bs ++ numB n).map bc ++ ex.drop 1)), St.set_le (St.none_le _) ((set_hit _ _ _).trans (by rw [h2]; simp)), nl2, ex.drop 1, by rw [h2]; simp [Nat.add_assoc], rfl⟩
theorem pnum_call (bs : BL) (t : Bool) (n : Int) (hb : bs.length ≤ 1000000) : MCalls Tryz.prog 21 [.lst 1 (bs.map bc) t, .int .i64 n] St.none (fun r _ => r = .lst 1 ((bs ++ numB n).map bc) false) :=
  MCalls.seen ((pnum_own bs hb t n).mono fun v σ' ⟨q, ex, h1, h2⟩ => by
    subst h1 h2
    exact view_row (set_hit _ _ _) (by simp))
end Go.Proofs.YtfbodefnblpflaaGreatDoor
end

section
/- Contracts of the program's texts, truths and copies as bytes: the conditions that the theorems name. -/
set_option linter.unusedVariables false
set_option linter.unusedSimpArgs false
namespace Go.Proofs.YtfbodefnblpflaaGreatDoor
theorem pstr_call (bs : BL) (t : Bool) (s : BL) (hb : bs.length ≤ 1000000) (hs : s.length ≤ 1000000) : MCalls Tryz.prog 181 [.lst 1 (bs.map bc) t, .str (bsS s)] St.none (fun r _ => r = .lst 1 ((bs ++ strB s).map bc) false) := by
  refine MCalls.seen (MCalls.body 11 [.tmp 4] Tryz.func181 rfl rfl rfl rfl ?_)
  have h := pnum_own bs hb t (s.length : Int)
  have hn := numB_len (s.length : Int)
  repeat' (first | (with_reducible first | (refine wT ?_; refine wN fun _ hnl => ?_; revert hnl; (repeat refine wS fun _ _ => ?_); intro hnl) | refine wD (by decide +kernel) ?_ | refine wI (fun h => ?_) fun h => ?_ | refine wF (fun h => ?_) fun h => ?_ | refine wG (fun h => ?_) fun h => ?_ | refine wH (fun h => ?_) fun h => ?_ | ((first | refine mfork_bool (fun h => ?_) fun h => ?_ | refine mgfork_bool (fun h => ?_) fun h => ?_) <;> simp only [h])) | simp (maxSteps := 4000000) (disch := first | decide | assumption | omega | (simp only [wL]; omega)) only [go_sem, simprocAttr, Tryz.f181, bsS_size, bsS_toList])
  refine use_frame h (St.none_le _) ?_
  rintro v σ' ⟨q, ex, rfl, rfl⟩ -
  repeat' (first | (with_reducible first | (refine wT ?_; refine wN fun _ hnl => ?_; revert hnl; (repeat refine wS fun _ _ => ?_); intro hnl) | refine wD (by decide +kernel) ?_ | refine wI (fun h => ?_) fun h => ?_ | refine wF (fun h => ?_) fun h => ?_ | refine wG (fun h => ?_) fun h => ?_ | refine wH (fun h => ?_) fun h => ?_ | ((first | refine mfork_bool (fun h => ?_) fun h => ?_ | refine mgfork_bool (fun h => ?_) fun h => ?_) <;> simp only [h])) | simp (maxSteps := 4000000) (disch := first | decide | assumption | omega | (simp only [wL]; omega)) only [go_sem, simprocAttr, over_set, over_none, minus_set, minus_none, bsS_toList])
  · have hex : ex = [] := List.eq_nil_of_length_eq_zero (by omega)
    subst hex
    exact view_row (t := 5) (ex := []) ((set_hit _ _ _).trans (by simp [strB, bc])) (by simp [strB, Nat.add_assoc])
  · exact view_row (t := 5) (ex := List.drop s.length ex) ((set_hit _ _ _).trans (by
      rw [List.take_append_of_le_length (by simp), List.take_of_length_le (by simp), List.drop_append, List.drop_eq_nil_of_le (by simp), List.nil_append]
      simp [strB, bc])) (by simp only [strB, List.length_append, List.length_map]; first | done | omega)
theorem pflag_call (bs : BL) (t : Bool) (b : Bool) (hb : bs.length ≤ 1000000) : MCalls Tryz.prog 122 [.lst 1 (bs.map bc) t, .bool b] St.none (fun r _ => r = .lst 1 ((bs ++ flagB b).map bc) false) := by
  refine (MCalls.body 10 [.tmp 4] Tryz.func122 rfl rfl rfl rfl ?_)
  have h1 := pnum_call bs t 1 hb
  have h0 := pnum_call bs t 0 hb
  cases b
  all_goals
    repeat' (first | (with_reducible first | refine up h1 ?_ | refine up h0 ?_) | (with_reducible first | (refine wT ?_; refine wN fun _ hnl => ?_; revert hnl; (repeat refine wS fun _ _ => ?_); intro hnl) | refine wD (by decide +kernel) ?_ | refine wI (fun h => ?_) fun h => ?_ | refine wF (fun h => ?_) fun h => ?_ | refine wG (fun h => ?_) fun h => ?_ | refine wH (fun h => ?_) fun h => ?_ | ((first | refine mfork_bool (fun h => ?_) fun h => ?_ | refine mgfork_bool (fun h => ?_) fun h => ?_) <;> simp only [h])) | simp (maxSteps := 4000000) (disch := first | decide | assumption | omega | (simp only [wL]; omega)) only [go_sem, simprocAttr, Tryz.f122])
    try rfl
end Go.Proofs.YtfbodefnblpflaaGreatDoor
end
