/- Parts of the proof, joined. Each part says what it proves, and under which conditions it does: those that its theorems name. -/
import Derived.Test.YtfbodefnblpflaaGreatDoorMce
import Derived.Test.YtfbodefnblpflaaGreatDoorMcf
import Derived.Test.YtfbodefnblpflaaGreatDoorRows
import Derived.KernelRfl
set_option linter.unusedVariables false
set_option linter.unusedSimpArgs false
set_option maxHeartbeats 4000000
section
namespace Go.Proofs.YtfbodefnblpflaaGreatDoor
theorem td1:td Tryz.prog 1=⟨true,1,8,true,[.nilfn],.func⟩:=by kernel_rfl
theorem td2:td Tryz.prog 2=⟨true,1,8,true,[.int .i64 0],.int .i64⟩:=by kernel_rfl
theorem td3:td Tryz.prog 3=⟨true,1,8,true,[.int .i64 0],.int .i64⟩:=by kernel_rfl
theorem td4:td Tryz.prog 4=⟨true,1,1,true,[.bool false],.bool⟩:=by kernel_rfl
theorem td5:td Tryz.prog 5=⟨true,1,1,true,[.int .u8 0],.int .u8⟩:=by kernel_rfl
theorem td6:td Tryz.prog 6=⟨true,1,1,true,[.int .u8 0],.int .u8⟩:=by kernel_rfl
theorem td7:td Tryz.prog 7=⟨true,4,24,true,[.int .i64 0, .int .i64 0, .bool false, .int .u8 0],.struct [(0, 2), (1, 3), (2, 4), (3, 6)]⟩:=by kernel_rfl
theorem td8:td Tryz.prog 8=⟨true,4,24,true,[.int .i64 0, .int .i64 0, .bool false, .int .u8 0],.struct [(0, 2), (1, 3), (2, 4), (3, 6)]⟩:=by kernel_rfl
theorem td9:td Tryz.prog 9=⟨true,1,16,true,[.str ⟨#[]⟩],.str⟩:=by kernel_rfl
theorem td10:td Tryz.prog 10=⟨true,1,16,true,[.str ⟨#[]⟩],.str⟩:=by kernel_rfl
theorem td11:td Tryz.prog 11=⟨true,1,16,true,[.str ⟨#[]⟩],.str⟩:=by kernel_rfl
theorem td12:td Tryz.prog 12=⟨true,1,8,true,[.int .u64 0],.int .u64⟩:=by kernel_rfl
theorem td13:td Tryz.prog 13=⟨true,2,24,true,[.str ⟨#[]⟩, .int .u64 0],.struct [(0, 9), (1, 12)]⟩:=by kernel_rfl
theorem td14:td Tryz.prog 14=⟨true,2,24,true,[.str ⟨#[]⟩, .int .u64 0],.struct [(0, 9), (1, 12)]⟩:=by kernel_rfl
theorem td15:td Tryz.prog 15=⟨true,1,8,true,[.nilp],.ptr 214⟩:=by kernel_rfl
theorem td16:td Tryz.prog 16=⟨true,1,8,true,[.nilp],.ptr 217⟩:=by kernel_rfl
theorem td17:td Tryz.prog 17=⟨true,1,8,true,[.nilp],.ptr 225⟩:=by kernel_rfl
theorem td18:td Tryz.prog 18=⟨true,1,8,true,[.nilp],.struct [(0, 17)]⟩:=by kernel_rfl
theorem td19:td Tryz.prog 19=⟨true,1,8,true,[.nilp],.struct [(0, 17)]⟩:=by kernel_rfl
theorem td20:td Tryz.prog 20=⟨true,1,16,true,[.nili],.iface⟩:=by kernel_rfl
theorem td21:td Tryz.prog 21=⟨true,1,4,true,[.int .i32 0],.int .i32⟩:=by kernel_rfl
theorem td22:td Tryz.prog 22=⟨true,1,4,true,[.int .u32 0],.int .u32⟩:=by kernel_rfl
theorem td23:td Tryz.prog 23=⟨true,3,32,true,[.int .i64 0, .int .i64 0, .str ⟨#[]⟩],.struct [(0, 3), (1, 3), (2, 9)]⟩:=by kernel_rfl
theorem td24:td Tryz.prog 24=⟨true,3,32,true,[.int .i64 0, .int .i64 0, .str ⟨#[]⟩],.struct [(0, 3), (1, 3), (2, 9)]⟩:=by kernel_rfl
theorem td25:td Tryz.prog 25=⟨true,24,256,true,[.int .i64 0, .int .i64 0, .str ⟨#[]⟩, .int .i64 0, .int .i64 0, .str ⟨#[]⟩, .int .i64 0, .int .i64 0, .str ⟨#[]⟩, .int .i64 0, .int .i64 0, .str ⟨#[]⟩, .int .i64 0, .int .i64 0, .str ⟨#[]⟩, .int .i64 0, .int .i64 0, .str ⟨#[]⟩, .int .i64 0, .int .i64 0, .str ⟨#[]⟩, .int .i64 0, .int .i64 0, .str ⟨#[]⟩],.array 8 24⟩:=by kernel_rfl
theorem td26:td Tryz.prog 26=⟨true,26,264,true,[.int .u32 0, .int .u32 0, .int .i64 0, .int .i64 0, .str ⟨#[]⟩, .int .i64 0, .int .i64 0, .str ⟨#[]⟩, .int .i64 0, .int .i64 0, .str ⟨#[]⟩, .int .i64 0, .int .i64 0, .str ⟨#[]⟩, .int .i64 0, .int .i64 0, .str ⟨#[]⟩, .int .i64 0, .int .i64 0, .str ⟨#[]⟩, .int .i64 0, .int .i64 0, .str ⟨#[]⟩, .int .i64 0, .int .i64 0, .str ⟨#[]⟩],.struct [(0, 22), (1, 22), (2, 25)]⟩:=by kernel_rfl
theorem td27:td Tryz.prog 27=⟨true,26,264,true,[.int .u32 0, .int .u32 0, .int .i64 0, .int .i64 0, .str ⟨#[]⟩, .int .i64 0, .int .i64 0, .str ⟨#[]⟩, .int .i64 0, .int .i64 0, .str ⟨#[]⟩, .int .i64 0, .int .i64 0, .str ⟨#[]⟩, .int .i64 0, .int .i64 0, .str ⟨#[]⟩, .int .i64 0, .int .i64 0, .str ⟨#[]⟩, .int .i64 0, .int .i64 0, .str ⟨#[]⟩, .int .i64 0, .int .i64 0, .str ⟨#[]⟩],.struct [(0, 22), (1, 22), (2, 25)]⟩:=by kernel_rfl
theorem td28:td Tryz.prog 28=⟨true,29,288,true,[.int .i64 0, .int .i64 0, .int .i64 0, .int .u32 0, .int .u32 0, .int .i64 0, .int .i64 0, .str ⟨#[]⟩, .int .i64 0, .int .i64 0, .str ⟨#[]⟩, .int .i64 0, .int .i64 0, .str ⟨#[]⟩, .int .i64 0, .int .i64 0, .str ⟨#[]⟩, .int .i64 0, .int .i64 0, .str ⟨#[]⟩, .int .i64 0, .int .i64 0, .str ⟨#[]⟩, .int .i64 0, .int .i64 0, .str ⟨#[]⟩, .int .i64 0, .int .i64 0, .str ⟨#[]⟩],.struct [(0, 3), (1, 3), (2, 3), (3, 27)]⟩:=by kernel_rfl
theorem td29:td Tryz.prog 29=⟨true,29,288,true,[.int .i64 0, .int .i64 0, .int .i64 0, .int .u32 0, .int .u32 0, .int .i64 0, .int .i64 0, .str ⟨#[]⟩, .int .i64 0, .int .i64 0, .str ⟨#[]⟩, .int .i64 0, .int .i64 0, .str ⟨#[]⟩, .int .i64 0, .int .i64 0, .str ⟨#[]⟩, .int .i64 0, .int .i64 0, .str ⟨#[]⟩, .int .i64 0, .int .i64 0, .str ⟨#[]⟩, .int .i64 0, .int .i64 0, .str ⟨#[]⟩, .int .i64 0, .int .i64 0, .str ⟨#[]⟩],.struct [(0, 3), (1, 3), (2, 3), (3, 27)]⟩:=by kernel_rfl
theorem td30:td Tryz.prog 30=⟨true,1,24,true,[.nils],.slice 115⟩:=by kernel_rfl
theorem td31:td Tryz.prog 31=⟨true,63,632,true,[.int .i64 0, .int .i64 0, .int .i64 0, .int .i64 0, .int .u32 0, .int .u32 0, .int .i64 0, .int .i64 0, .str ⟨#[]⟩, .int .i64 0, .int .i64 0, .str ⟨#[]⟩, .int .i64 0, .int .i64 0, .str ⟨#[]⟩, .int .i64 0, .int .i64 0, .str ⟨#[]⟩, .int .i64 0, .int .i64 0, .str ⟨#[]⟩, .int .i64 0, .int .i64 0, .str ⟨#[]⟩, .int .i64 0, .int .i64 0, .str ⟨#[]⟩, .int .i64 0, .int .i64 0, .str ⟨#[]⟩, .int .i64 0, .int .i64 0, .int .i64 0, .int .i64 0, .int .i64 0, .int .u32 0, .int .u32 0, .int .i64 0, .int .i64 0, .str ⟨#[]⟩, .int .i64 0, .int .i64 0, .str ⟨#[]⟩, .int .i64 0, .int .i64 0, .str ⟨#[]⟩, .int .i64 0, .int .i64 0, .str ⟨#[]⟩, .int .i64 0, .int .i64 0, .str ⟨#[]⟩, .int .i64 0, .int .i64 0, .str ⟨#[]⟩, .int .i64 0, .int .i64 0, .str ⟨#[]⟩, .int .i64 0, .int .i64 0, .str ⟨#[]⟩, .nils, .int .u32 0],.struct [(0, 3), (1, 29), (30, 3), (31, 3), (32, 3), (33, 3), (34, 3), (35, 27), (61, 30), (62, 22)]⟩:=by kernel_rfl
theorem td32:td Tryz.prog 32=⟨true,63,632,true,[.int .i64 0, .int .i64 0, .int .i64 0, .int .i64 0, .int .u32 0, .int .u32 0, .int .i64 0, .int .i64 0, .str ⟨#[]⟩, .int .i64 0, .int .i64 0, .str ⟨#[]⟩, .int .i64 0, .int .i64 0, .str ⟨#[]⟩, .int .i64 0, .int .i64 0, .str ⟨#[]⟩, .int .i64 0, .int .i64 0, .str ⟨#[]⟩, .int .i64 0, .int .i64 0, .str ⟨#[]⟩, .int .i64 0, .int .i64 0, .str ⟨#[]⟩, .int .i64 0, .int .i64 0, .str ⟨#[]⟩, .int .i64 0, .int .i64 0, .int .i64 0, .int .i64 0, .int .i64 0, .int .u32 0, .int .u32 0, .int .i64 0, .int .i64 0, .str ⟨#[]⟩, .int .i64 0, .int .i64 0, .str ⟨#[]⟩, .int .i64 0, .int .i64 0, .str ⟨#[]⟩, .int .i64 0, .int .i64 0, .str ⟨#[]⟩, .int .i64 0, .int .i64 0, .str ⟨#[]⟩, .int .i64 0, .int .i64 0, .str ⟨#[]⟩, .int .i64 0, .int .i64 0, .str ⟨#[]⟩, .int .i64 0, .int .i64 0, .str ⟨#[]⟩, .nils, .int .u32 0],.struct [(0, 3), (1, 29), (30, 3), (31, 3), (32, 3), (33, 3), (34, 3), (35, 27), (61, 30), (62, 22)]⟩:=by kernel_rfl
theorem td33:td Tryz.prog 33=⟨true,4,32,true,[.int .i64 0, .int .i64 0, .int .i64 0, .int .i64 0],.struct [(0, 3), (1, 3), (2, 3), (3, 3)]⟩:=by kernel_rfl
theorem td34:td Tryz.prog 34=⟨true,4,32,true,[.int .i64 0, .int .i64 0, .int .i64 0, .int .i64 0],.struct [(0, 3), (1, 3), (2, 3), (3, 3)]⟩:=by kernel_rfl
theorem td35:td Tryz.prog 35=⟨true,1,8,true,[.int .i64 0],.int .i64⟩:=by kernel_rfl
theorem td36:td Tryz.prog 36=⟨true,10,96,true,[.int .i64 0, .int .i64 0, .int .i64 0, .int .i64 0, .int .i64 0, .int .i64 0, .int .i64 0, .int .i64 0, .nils, .int .u32 0],.struct [(0, 3), (1, 3), (2, 3), (3, 35), (4, 3), (5, 3), (6, 3), (7, 3), (8, 30), (9, 22)]⟩:=by kernel_rfl
theorem td37:td Tryz.prog 37=⟨true,10,96,true,[.int .i64 0, .int .i64 0, .int .i64 0, .int .i64 0, .int .i64 0, .int .i64 0, .int .i64 0, .int .i64 0, .nils, .int .u32 0],.struct [(0, 3), (1, 3), (2, 3), (3, 35), (4, 3), (5, 3), (6, 3), (7, 3), (8, 30), (9, 22)]⟩:=by kernel_rfl
theorem td38:td Tryz.prog 38=⟨true,1,24,true,[.nils],.slice 119⟩:=by kernel_rfl
theorem td39:td Tryz.prog 39=⟨true,11,104,true,[.int .i64 0, .bool false, .int .i64 0, .int .i64 0, .int .i64 0, .int .i64 0, .int .i64 0, .int .i64 0, .int .i64 0, .int .i64 0, .nils],.struct [(0, 35), (1, 4), (2, 34), (6, 34), (10, 38)]⟩:=by kernel_rfl
theorem td40:td Tryz.prog 40=⟨true,11,104,true,[.int .i64 0, .bool false, .int .i64 0, .int .i64 0, .int .i64 0, .int .i64 0, .int .i64 0, .int .i64 0, .int .i64 0, .int .i64 0, .nils],.struct [(0, 35), (1, 4), (2, 34), (6, 34), (10, 38)]⟩:=by kernel_rfl
theorem td41:td Tryz.prog 41=⟨true,91,888,true,[.int .i64 0, .int .i64 0, .int .i64 0, .int .i64 0, .int .i64 0, .int .i64 0, .int .u32 0, .int .u32 0, .int .i64 0, .int .i64 0, .str ⟨#[]⟩, .int .i64 0, .int .i64 0, .str ⟨#[]⟩, .int .i64 0, .int .i64 0, .str ⟨#[]⟩, .int .i64 0, .int .i64 0, .str ⟨#[]⟩, .int .i64 0, .int .i64 0, .str ⟨#[]⟩, .int .i64 0, .int .i64 0, .str ⟨#[]⟩, .int .i64 0, .int .i64 0, .str ⟨#[]⟩, .int .i64 0, .int .i64 0, .str ⟨#[]⟩, .int .i64 0, .int .i64 0, .int .i64 0, .int .i64 0, .int .i64 0, .int .u32 0, .int .u32 0, .int .i64 0, .int .i64 0, .str ⟨#[]⟩, .int .i64 0, .int .i64 0, .str ⟨#[]⟩, .int .i64 0, .int .i64 0, .str ⟨#[]⟩, .int .i64 0, .int .i64 0, .str ⟨#[]⟩, .int .i64 0, .int .i64 0, .str ⟨#[]⟩, .int .i64 0, .int .i64 0, .str ⟨#[]⟩, .int .i64 0, .int .i64 0, .str ⟨#[]⟩, .int .i64 0, .int .i64 0, .str ⟨#[]⟩, .nils, .int .u32 0, .int .i64 0, .int .i64 0, .int .i64 0, .int .i64 0, .int .i64 0, .int .i64 0, .int .i64 0, .int .i64 0, .int .i64 0, .int .i64 0, .int .i64 0, .int .i64 0, .nils, .int .u32 0, .int .i64 0, .bool false, .int .i64 0, .int .i64 0, .int .i64 0, .int .i64 0, .int .i64 0, .int .i64 0, .int .i64 0, .int .i64 0, .nils, .int .i64 0],.struct [(0, 3), (1, 3), (2, 32), (65, 34), (69, 37), (79, 40), (90, 35)]⟩:=by kernel_rfl
theorem td42:td Tryz.prog 42=⟨true,91,888,true,[.int .i64 0, .int .i64 0, .int .i64 0, .int .i64 0, .int .i64 0, .int .i64 0, .int .u32 0, .int .u32 0, .int .i64 0, .int .i64 0, .str ⟨#[]⟩, .int .i64 0, .int .i64 0, .str ⟨#[]⟩, .int .i64 0, .int .i64 0, .str ⟨#[]⟩, .int .i64 0, .int .i64 0, .str ⟨#[]⟩, .int .i64 0, .int .i64 0, .str ⟨#[]⟩, .int .i64 0, .int .i64 0, .str ⟨#[]⟩, .int .i64 0, .int .i64 0, .str ⟨#[]⟩, .int .i64 0, .int .i64 0, .str ⟨#[]⟩, .int .i64 0, .int .i64 0, .int .i64 0, .int .i64 0, .int .i64 0, .int .u32 0, .int .u32 0, .int .i64 0, .int .i64 0, .str ⟨#[]⟩, .int .i64 0, .int .i64 0, .str ⟨#[]⟩, .int .i64 0, .int .i64 0, .str ⟨#[]⟩, .int .i64 0, .int .i64 0, .str ⟨#[]⟩, .int .i64 0, .int .i64 0, .str ⟨#[]⟩, .int .i64 0, .int .i64 0, .str ⟨#[]⟩, .int .i64 0, .int .i64 0, .str ⟨#[]⟩, .int .i64 0, .int .i64 0, .str ⟨#[]⟩, .nils, .int .u32 0, .int .i64 0, .int .i64 0, .int .i64 0, .int .i64 0, .int .i64 0, .int .i64 0, .int .i64 0, .int .i64 0, .int .i64 0, .int .i64 0, .int .i64 0, .int .i64 0, .nils, .int .u32 0, .int .i64 0, .bool false, .int .i64 0, .int .i64 0, .int .i64 0, .int .i64 0, .int .i64 0, .int .i64 0, .int .i64 0, .int .i64 0, .nils, .int .i64 0],.struct [(0, 3), (1, 3), (2, 32), (65, 34), (69, 37), (79, 40), (90, 35)]⟩:=by kernel_rfl
theorem td43:td Tryz.prog 43=⟨true,1,8,true,[.nilfn],.func⟩:=by kernel_rfl
theorem td44:td Tryz.prog 44=⟨true,1,8,true,[.nilfn],.func⟩:=by kernel_rfl
theorem td46:td Tryz.prog 46=⟨true,1,8,true,[.nilfn],.func⟩:=by kernel_rfl
theorem td47:td Tryz.prog 47=⟨true,91,888,true,[.int .i64 0, .int .i64 0, .int .i64 0, .int .i64 0, .int .i64 0, .int .i64 0, .int .u32 0, .int .u32 0, .int .i64 0, .int .i64 0, .str ⟨#[]⟩, .int .i64 0, .int .i64 0, .str ⟨#[]⟩, .int .i64 0, .int .i64 0, .str ⟨#[]⟩, .int .i64 0, .int .i64 0, .str ⟨#[]⟩, .int .i64 0, .int .i64 0, .str ⟨#[]⟩, .int .i64 0, .int .i64 0, .str ⟨#[]⟩, .int .i64 0, .int .i64 0, .str ⟨#[]⟩, .int .i64 0, .int .i64 0, .str ⟨#[]⟩, .int .i64 0, .int .i64 0, .int .i64 0, .int .i64 0, .int .i64 0, .int .u32 0, .int .u32 0, .int .i64 0, .int .i64 0, .str ⟨#[]⟩, .int .i64 0, .int .i64 0, .str ⟨#[]⟩, .int .i64 0, .int .i64 0, .str ⟨#[]⟩, .int .i64 0, .int .i64 0, .str ⟨#[]⟩, .int .i64 0, .int .i64 0, .str ⟨#[]⟩, .int .i64 0, .int .i64 0, .str ⟨#[]⟩, .int .i64 0, .int .i64 0, .str ⟨#[]⟩, .int .i64 0, .int .i64 0, .str ⟨#[]⟩, .nils, .int .u32 0, .int .i64 0, .int .i64 0, .int .i64 0, .int .i64 0, .int .i64 0, .int .i64 0, .int .i64 0, .int .i64 0, .int .i64 0, .int .i64 0, .int .i64 0, .int .i64 0, .nils, .int .u32 0, .int .i64 0, .bool false, .int .i64 0, .int .i64 0, .int .i64 0, .int .i64 0, .int .i64 0, .int .i64 0, .int .i64 0, .int .i64 0, .nils, .int .i64 0],.struct [(0, 3), (1, 3), (2, 32), (65, 34), (69, 37), (79, 40), (90, 35)]⟩:=by kernel_rfl
theorem td48:td Tryz.prog 48=⟨true,1,8,true,[.nilfn],.func⟩:=by kernel_rfl
theorem td49:td Tryz.prog 49=⟨true,1,8,true,[.nilfn],.func⟩:=by kernel_rfl
theorem td50:td Tryz.prog 50=⟨true,1,8,true,[.nilfn],.func⟩:=by kernel_rfl
theorem td51:td Tryz.prog 51=⟨true,1,8,true,[.nilfn],.func⟩:=by kernel_rfl
theorem td52:td Tryz.prog 52=⟨true,1,8,true,[.nilfn],.func⟩:=by kernel_rfl
theorem td54:td Tryz.prog 54=⟨true,1,8,true,[.nilfn],.func⟩:=by kernel_rfl
theorem td56:td Tryz.prog 56=⟨true,1,8,true,[.nilfn],.func⟩:=by kernel_rfl
theorem td57:td Tryz.prog 57=⟨true,1,8,true,[.nilfn],.func⟩:=by kernel_rfl
theorem td58:td Tryz.prog 58=⟨true,1,8,true,[.nilfn],.func⟩:=by kernel_rfl
theorem td59:td Tryz.prog 59=⟨true,1,8,true,[.nilfn],.func⟩:=by kernel_rfl
theorem td60:td Tryz.prog 60=⟨true,1,8,true,[.nilfn],.func⟩:=by kernel_rfl
theorem td61:td Tryz.prog 61=⟨true,1,8,true,[.nilfn],.func⟩:=by kernel_rfl
theorem td62:td Tryz.prog 62=⟨true,1,8,true,[.nilfn],.func⟩:=by kernel_rfl
theorem td63:td Tryz.prog 63=⟨true,1,24,true,[.nils],.slice 5⟩:=by kernel_rfl
theorem td64:td Tryz.prog 64=⟨true,1,8,true,[.nilfn],.func⟩:=by kernel_rfl
theorem td65:td Tryz.prog 65=⟨true,1,8,true,[.nilfn],.func⟩:=by kernel_rfl
theorem td66:td Tryz.prog 66=⟨true,1,8,true,[.nilfn],.func⟩:=by kernel_rfl
theorem td67:td Tryz.prog 67=⟨true,3,24,true,[.nilfn, .nilfn, .nilfn],.struct [(0, 60), (1, 65), (2, 66)]⟩:=by kernel_rfl
theorem td68:td Tryz.prog 68=⟨true,3,24,true,[.nilfn, .nilfn, .nilfn],.struct [(0, 60), (1, 65), (2, 66)]⟩:=by kernel_rfl
theorem td69:td Tryz.prog 69=⟨true,1,8,true,[.nilfn],.func⟩:=by kernel_rfl
theorem td70:td Tryz.prog 70=⟨true,1,8,true,[.nilfn],.func⟩:=by kernel_rfl
theorem td71:td Tryz.prog 71=⟨true,1,8,true,[.nilfn],.func⟩:=by kernel_rfl
theorem td72:td Tryz.prog 72=⟨true,1,8,true,[.nilfn],.func⟩:=by kernel_rfl
theorem td73:td Tryz.prog 73=⟨true,3,24,true,[.nilfn, .nilfn, .nilfn],.struct [(0, 70), (1, 71), (2, 72)]⟩:=by kernel_rfl
theorem td74:td Tryz.prog 74=⟨true,3,24,true,[.nilfn, .nilfn, .nilfn],.struct [(0, 70), (1, 71), (2, 72)]⟩:=by kernel_rfl
theorem td75:td Tryz.prog 75=⟨true,1,8,true,[.nilfn],.func⟩:=by kernel_rfl
theorem td76:td Tryz.prog 76=⟨true,1,8,true,[.nilfn],.func⟩:=by kernel_rfl
theorem td77:td Tryz.prog 77=⟨true,1,8,true,[.nilfn],.func⟩:=by kernel_rfl
theorem td78:td Tryz.prog 78=⟨true,1,8,true,[.nilfn],.func⟩:=by kernel_rfl
theorem td79:td Tryz.prog 79=⟨true,3,24,true,[.nilfn, .nilfn, .nilfn],.struct [(0, 76), (1, 77), (2, 78)]⟩:=by kernel_rfl
theorem td80:td Tryz.prog 80=⟨true,3,24,true,[.nilfn, .nilfn, .nilfn],.struct [(0, 76), (1, 77), (2, 78)]⟩:=by kernel_rfl
theorem td81:td Tryz.prog 81=⟨true,1,8,true,[.nilfn],.func⟩:=by kernel_rfl
theorem td82:td Tryz.prog 82=⟨true,1,8,true,[.nilfn],.func⟩:=by kernel_rfl
theorem td83:td Tryz.prog 83=⟨true,1,8,true,[.nilfn],.func⟩:=by kernel_rfl
theorem td84:td Tryz.prog 84=⟨true,1,8,true,[.nilfn],.func⟩:=by kernel_rfl
theorem td85:td Tryz.prog 85=⟨true,3,24,true,[.nilfn, .nilfn, .nilfn],.struct [(0, 82), (1, 83), (2, 84)]⟩:=by kernel_rfl
theorem td86:td Tryz.prog 86=⟨true,3,24,true,[.nilfn, .nilfn, .nilfn],.struct [(0, 82), (1, 83), (2, 84)]⟩:=by kernel_rfl
theorem td87:td Tryz.prog 87=⟨true,1,8,true,[.nilfn],.func⟩:=by kernel_rfl
theorem td88:td Tryz.prog 88=⟨true,1,8,true,[.nilfn],.func⟩:=by kernel_rfl
theorem td89:td Tryz.prog 89=⟨true,1,8,true,[.nilfn],.func⟩:=by kernel_rfl
theorem td90:td Tryz.prog 90=⟨true,1,8,true,[.nilfn],.func⟩:=by kernel_rfl
theorem td91:td Tryz.prog 91=⟨true,1,8,true,[.nilfn],.func⟩:=by kernel_rfl
theorem td92:td Tryz.prog 92=⟨true,1,8,true,[.nilfn],.func⟩:=by kernel_rfl
theorem td93:td Tryz.prog 93=⟨true,1,8,true,[.nilfn],.func⟩:=by kernel_rfl
theorem td94:td Tryz.prog 94=⟨true,1,8,true,[.nilfn],.func⟩:=by kernel_rfl
theorem td95:td Tryz.prog 95=⟨true,3,24,true,[.nilfn, .nilfn, .nilfn],.struct [(0, 93), (1, 64), (2, 94)]⟩:=by kernel_rfl
theorem td96:td Tryz.prog 96=⟨true,3,24,true,[.nilfn, .nilfn, .nilfn],.struct [(0, 93), (1, 64), (2, 94)]⟩:=by kernel_rfl
theorem td97:td Tryz.prog 97=⟨true,1,8,true,[.nilfn],.func⟩:=by kernel_rfl
theorem td98:td Tryz.prog 98=⟨true,1,8,true,[.nilfn],.func⟩:=by kernel_rfl
theorem td99:td Tryz.prog 99=⟨true,1,8,true,[.nilfn],.func⟩:=by kernel_rfl
theorem td100:td Tryz.prog 100=⟨true,1,8,true,[.nilfn],.func⟩:=by kernel_rfl
theorem td101:td Tryz.prog 101=⟨true,1,8,true,[.nilp],.ptr 136⟩:=by kernel_rfl
theorem td102:td Tryz.prog 102=⟨true,1,8,true,[.nilfn],.func⟩:=by kernel_rfl
theorem td103:td Tryz.prog 103=⟨true,1,8,true,[.nilfn],.func⟩:=by kernel_rfl
theorem td104:td Tryz.prog 104=⟨true,1,8,true,[.nilp],.ptr 106⟩:=by kernel_rfl
theorem td105:td Tryz.prog 105=⟨true,2,24,true,[.str ⟨#[]⟩, .int .i64 0],.struct [(0, 9), (1, 35)]⟩:=by kernel_rfl
theorem td106:td Tryz.prog 106=⟨true,2,24,true,[.str ⟨#[]⟩, .int .i64 0],.struct [(0, 9), (1, 35)]⟩:=by kernel_rfl
theorem td107:td Tryz.prog 107=⟨true,1,8,true,[.nilfn],.func⟩:=by kernel_rfl
theorem td108:td Tryz.prog 108=⟨true,1,8,true,[.nilfn],.func⟩:=by kernel_rfl
theorem td109:td Tryz.prog 109=⟨true,1,8,true,[.nilfn],.func⟩:=by kernel_rfl
theorem td110:td Tryz.prog 110=⟨true,1,8,true,[.nilfn],.func⟩:=by kernel_rfl
theorem td111:td Tryz.prog 111=⟨true,1,8,true,[.nilfn],.func⟩:=by kernel_rfl
theorem td112:td Tryz.prog 112=⟨true,1,8,true,[.nilfn],.func⟩:=by kernel_rfl
theorem td113:td Tryz.prog 113=⟨true,1,8,true,[.nilfn],.func⟩:=by kernel_rfl
theorem td114:td Tryz.prog 114=⟨true,5,48,true,[.int .i64 0, .int .i64 0, .int .i64 0, .int .i64 0, .str ⟨#[]⟩],.struct [(0, 3), (1, 3), (2, 24)]⟩:=by kernel_rfl
theorem td115:td Tryz.prog 115=⟨true,5,48,true,[.int .i64 0, .int .i64 0, .int .i64 0, .int .i64 0, .str ⟨#[]⟩],.struct [(0, 3), (1, 3), (2, 24)]⟩:=by kernel_rfl
theorem td116:td Tryz.prog 116=⟨true,27,280,true,[.int .i64 0, .int .i64 0, .int .u32 0, .int .i64 0, .int .i64 0, .str ⟨#[]⟩, .int .i64 0, .int .i64 0, .str ⟨#[]⟩, .int .i64 0, .int .i64 0, .str ⟨#[]⟩, .int .i64 0, .int .i64 0, .str ⟨#[]⟩, .int .i64 0, .int .i64 0, .str ⟨#[]⟩, .int .i64 0, .int .i64 0, .str ⟨#[]⟩, .int .i64 0, .int .i64 0, .str ⟨#[]⟩, .int .i64 0, .int .i64 0, .str ⟨#[]⟩],.struct [(0, 3), (1, 3), (2, 22), (3, 25)]⟩:=by kernel_rfl
theorem td117:td Tryz.prog 117=⟨true,27,280,true,[.int .i64 0, .int .i64 0, .int .u32 0, .int .i64 0, .int .i64 0, .str ⟨#[]⟩, .int .i64 0, .int .i64 0, .str ⟨#[]⟩, .int .i64 0, .int .i64 0, .str ⟨#[]⟩, .int .i64 0, .int .i64 0, .str ⟨#[]⟩, .int .i64 0, .int .i64 0, .str ⟨#[]⟩, .int .i64 0, .int .i64 0, .str ⟨#[]⟩, .int .i64 0, .int .i64 0, .str ⟨#[]⟩, .int .i64 0, .int .i64 0, .str ⟨#[]⟩],.struct [(0, 3), (1, 3), (2, 22), (3, 25)]⟩:=by kernel_rfl
theorem td118:td Tryz.prog 118=⟨true,28,288,true,[.int .i64 0, .int .i64 0, .int .i64 0, .int .u32 0, .int .i64 0, .int .i64 0, .str ⟨#[]⟩, .int .i64 0, .int .i64 0, .str ⟨#[]⟩, .int .i64 0, .int .i64 0, .str ⟨#[]⟩, .int .i64 0, .int .i64 0, .str ⟨#[]⟩, .int .i64 0, .int .i64 0, .str ⟨#[]⟩, .int .i64 0, .int .i64 0, .str ⟨#[]⟩, .int .i64 0, .int .i64 0, .str ⟨#[]⟩, .int .i64 0, .int .i64 0, .str ⟨#[]⟩],.struct [(0, 3), (1, 117)]⟩:=by kernel_rfl
theorem td119:td Tryz.prog 119=⟨true,28,288,true,[.int .i64 0, .int .i64 0, .int .i64 0, .int .u32 0, .int .i64 0, .int .i64 0, .str ⟨#[]⟩, .int .i64 0, .int .i64 0, .str ⟨#[]⟩, .int .i64 0, .int .i64 0, .str ⟨#[]⟩, .int .i64 0, .int .i64 0, .str ⟨#[]⟩, .int .i64 0, .int .i64 0, .str ⟨#[]⟩, .int .i64 0, .int .i64 0, .str ⟨#[]⟩, .int .i64 0, .int .i64 0, .str ⟨#[]⟩, .int .i64 0, .int .i64 0, .str ⟨#[]⟩],.struct [(0, 3), (1, 117)]⟩:=by kernel_rfl
theorem td120:td Tryz.prog 120=⟨true,1,8,true,[.int .u64 0],.int .u64⟩:=by kernel_rfl
theorem td121:td Tryz.prog 121=⟨true,1,8,true,[.nilfn],.func⟩:=by kernel_rfl
theorem td122:td Tryz.prog 122=⟨true,1,8,true,[.nilfn],.func⟩:=by kernel_rfl
theorem td123:td Tryz.prog 123=⟨true,1,8,true,[.nilfn],.func⟩:=by kernel_rfl
theorem td124:td Tryz.prog 124=⟨true,1,8,true,[.nilfn],.func⟩:=by kernel_rfl
theorem td125:td Tryz.prog 125=⟨true,1,8,true,[.nilfn],.func⟩:=by kernel_rfl
theorem td126:td Tryz.prog 126=⟨true,1,8,true,[.nilfn],.func⟩:=by kernel_rfl
theorem td127:td Tryz.prog 127=⟨true,1,8,true,[.nilfn],.func⟩:=by kernel_rfl
theorem td128:td Tryz.prog 128=⟨true,1,8,true,[.nilfn],.func⟩:=by kernel_rfl
theorem td129:td Tryz.prog 129=⟨true,1,8,true,[.nilfn],.func⟩:=by kernel_rfl
theorem td130:td Tryz.prog 130=⟨true,1,8,true,[.nilfn],.func⟩:=by kernel_rfl
theorem td131:td Tryz.prog 131=⟨true,1,8,true,[.nilfn],.func⟩:=by kernel_rfl
theorem td132:td Tryz.prog 132=⟨true,1,8,true,[.nilfn],.func⟩:=by kernel_rfl
theorem td133:td Tryz.prog 133=⟨true,1,8,true,[.nilfn],.func⟩:=by kernel_rfl
theorem td134:td Tryz.prog 134=⟨true,1,8,true,[.nilfn],.func⟩:=by kernel_rfl
theorem td135:td Tryz.prog 135=⟨true,3,40,true,[.nils, .int .i64 0, .int .i64 0],.struct [(0, 63), (1, 3), (2, 35)]⟩:=by kernel_rfl
theorem td136:td Tryz.prog 136=⟨true,3,40,true,[.nils, .int .i64 0, .int .i64 0],.struct [(0, 63), (1, 3), (2, 35)]⟩:=by kernel_rfl
theorem td137:td Tryz.prog 137=⟨true,1,8,true,[.nilfn],.func⟩:=by kernel_rfl
theorem td138:td Tryz.prog 138=⟨true,1,8,true,[.nilfn],.func⟩:=by kernel_rfl
theorem td139:td Tryz.prog 139=⟨true,1,8,true,[.nilfn],.func⟩:=by kernel_rfl
theorem td140:td Tryz.prog 140=⟨true,1,8,true,[.nilfn],.func⟩:=by kernel_rfl
theorem td141:td Tryz.prog 141=⟨true,1,8,true,[.nilfn],.func⟩:=by kernel_rfl
theorem td142:td Tryz.prog 142=⟨true,1,8,true,[.nilfn],.func⟩:=by kernel_rfl
theorem td143:td Tryz.prog 143=⟨true,1,8,true,[.nilfn],.func⟩:=by kernel_rfl
theorem td144:td Tryz.prog 144=⟨true,1,8,true,[.nilfn],.func⟩:=by kernel_rfl
theorem td145:td Tryz.prog 145=⟨true,1,8,true,[.nilfn],.func⟩:=by kernel_rfl
theorem td146:td Tryz.prog 146=⟨true,1,8,true,[.nilp],.ptr 32⟩:=by kernel_rfl
theorem td147:td Tryz.prog 147=⟨true,1,8,true,[.nilfn],.func⟩:=by kernel_rfl
theorem td148:td Tryz.prog 148=⟨true,1,8,true,[.nilfn],.func⟩:=by kernel_rfl
theorem td149:td Tryz.prog 149=⟨true,1,8,true,[.nilm],.map 3 148⟩:=by kernel_rfl
theorem td150:td Tryz.prog 150=⟨true,1,8,true,[.nilfn],.func⟩:=by kernel_rfl
theorem td151:td Tryz.prog 151=⟨true,4,32,true,[.int .i64 0, .int .i64 0, .int .i64 0, .int .i64 0],.array 4 3⟩:=by kernel_rfl
theorem td152:td Tryz.prog 152=⟨true,1,8,true,[.nilfn],.func⟩:=by kernel_rfl
theorem td153:td Tryz.prog 153=⟨true,1,8,true,[.nilfn],.func⟩:=by kernel_rfl
theorem td154:td Tryz.prog 154=⟨true,1,8,true,[.nilfn],.func⟩:=by kernel_rfl
theorem td155:td Tryz.prog 155=⟨true,1,8,true,[.nilfn],.func⟩:=by kernel_rfl
theorem td156:td Tryz.prog 156=⟨true,1,8,true,[.nilfn],.func⟩:=by kernel_rfl
theorem td157:td Tryz.prog 157=⟨true,1,8,true,[.nilfn],.func⟩:=by kernel_rfl
theorem td158:td Tryz.prog 158=⟨true,1,8,true,[.nilfn],.func⟩:=by kernel_rfl
theorem td159:td Tryz.prog 159=⟨true,1,8,true,[.nilfn],.func⟩:=by kernel_rfl
theorem td160:td Tryz.prog 160=⟨true,1,8,true,[.nilfn],.func⟩:=by kernel_rfl
theorem td161:td Tryz.prog 161=⟨true,1,8,true,[.nilfn],.func⟩:=by kernel_rfl
theorem td162:td Tryz.prog 162=⟨true,1,8,true,[.nilfn],.func⟩:=by kernel_rfl
theorem td163:td Tryz.prog 163=⟨true,1,8,true,[.nilfn],.func⟩:=by kernel_rfl
theorem td164:td Tryz.prog 164=⟨true,1,8,true,[.nilfn],.func⟩:=by kernel_rfl
theorem td166:td Tryz.prog 166=⟨true,1,8,true,[.nilfn],.func⟩:=by kernel_rfl
theorem td167:td Tryz.prog 167=⟨true,1,8,true,[.nilfn],.func⟩:=by kernel_rfl
theorem td168:td Tryz.prog 168=⟨true,1,8,true,[.nilfn],.func⟩:=by kernel_rfl
theorem td170:td Tryz.prog 170=⟨true,1,8,true,[.nilfn],.func⟩:=by kernel_rfl
theorem td171:td Tryz.prog 171=⟨true,1,8,true,[.nilfn],.func⟩:=by kernel_rfl
theorem td172:td Tryz.prog 172=⟨true,1,8,true,[.nilfn],.func⟩:=by kernel_rfl
theorem td173:td Tryz.prog 173=⟨true,1,8,true,[.nilfn],.func⟩:=by kernel_rfl
theorem td175:td Tryz.prog 175=⟨true,1,8,true,[.nilfn],.func⟩:=by kernel_rfl
theorem td177:td Tryz.prog 177=⟨true,1,8,true,[.nilfn],.func⟩:=by kernel_rfl
theorem td178:td Tryz.prog 178=⟨true,1,8,true,[.nilfn],.func⟩:=by kernel_rfl
theorem td179:td Tryz.prog 179=⟨true,1,8,true,[.nilfn],.func⟩:=by kernel_rfl
theorem td180:td Tryz.prog 180=⟨true,1,8,true,[.nilfn],.func⟩:=by kernel_rfl
theorem td181:td Tryz.prog 181=⟨true,1,8,true,[.nilfn],.func⟩:=by kernel_rfl
theorem td182:td Tryz.prog 182=⟨true,1,8,true,[.nilfn],.func⟩:=by kernel_rfl
theorem td183:td Tryz.prog 183=⟨true,1,24,true,[.nils],.slice 3⟩:=by kernel_rfl
theorem td184:td Tryz.prog 184=⟨true,1,8,true,[.nilfn],.func⟩:=by kernel_rfl
theorem td185:td Tryz.prog 185=⟨true,1,8,true,[.nilfn],.func⟩:=by kernel_rfl
theorem td186:td Tryz.prog 186=⟨true,1,8,true,[.nilfn],.func⟩:=by kernel_rfl
theorem td187:td Tryz.prog 187=⟨true,1,8,true,[.nilfn],.func⟩:=by kernel_rfl
theorem td188:td Tryz.prog 188=⟨true,1,8,true,[.nilfn],.func⟩:=by kernel_rfl
theorem td189:td Tryz.prog 189=⟨true,1,8,true,[.nilfn],.func⟩:=by kernel_rfl
theorem td191:td Tryz.prog 191=⟨true,1,8,true,[.nilfn],.func⟩:=by kernel_rfl
theorem td192:td Tryz.prog 192=⟨true,1,24,true,[.nils],.slice 30⟩:=by kernel_rfl
theorem td193:td Tryz.prog 193=⟨true,1,8,true,[.nilfn],.func⟩:=by kernel_rfl
theorem td194:td Tryz.prog 194=⟨true,1,8,true,[.nilfn],.func⟩:=by kernel_rfl
theorem td195:td Tryz.prog 195=⟨true,1,8,true,[.nilfn],.func⟩:=by kernel_rfl
theorem td196:td Tryz.prog 196=⟨true,1,8,true,[.nilfn],.func⟩:=by kernel_rfl
theorem td198:td Tryz.prog 198=⟨true,1,8,true,[.nilfn],.func⟩:=by kernel_rfl
theorem td199:td Tryz.prog 199=⟨true,1,8,true,[.nilfn],.func⟩:=by kernel_rfl
theorem td200:td Tryz.prog 200=⟨true,1,8,true,[.nilfn],.func⟩:=by kernel_rfl
theorem td205:td Tryz.prog 205=⟨true,1,24,true,[.nils],.slice 24⟩:=by kernel_rfl
theorem td209:td Tryz.prog 209=⟨true,1,8,true,[.nilfn],.func⟩:=by kernel_rfl
theorem td211:td Tryz.prog 211=⟨true,32,32,true,List.replicate 32 (.int .u8 0),.array 32 5⟩:=by kernel_rfl
theorem td214:td Tryz.prog 214=⟨true,4,40,true,[.nilp, .nilp, .nilp, .str ⟨#[]⟩],.struct [(0, 17), (1, 17), (2, 17), (3, 9)]⟩:=by kernel_rfl
theorem td215:td Tryz.prog 215=⟨true,0,0,true,[],.array 0 16⟩:=by kernel_rfl
theorem td217:td Tryz.prog 217=⟨true,0,0,true,[],.struct [(0, 215)]⟩:=by kernel_rfl
theorem td218:td Tryz.prog 218=⟨true,1,1,true,[.int .u8 0],.int .u8⟩:=by kernel_rfl
theorem td219:td Tryz.prog 219=⟨true,1,1,true,[.int .u8 0],.int .u8⟩:=by kernel_rfl
theorem td220:td Tryz.prog 220=⟨true,1,8,true,[.nilfn],.func⟩:=by kernel_rfl
theorem td221:td Tryz.prog 221=⟨true,1,8,true,[.nilp],.ptr 5⟩:=by kernel_rfl
theorem td222:td Tryz.prog 222=⟨true,1,4,true,[.int .i32 0],.int .i32⟩:=by kernel_rfl
theorem td223:td Tryz.prog 223=⟨true,1,4,true,[.int .i32 0],.int .i32⟩:=by kernel_rfl
theorem td225:td Tryz.prog 225=⟨true,11,48,true,[.int .u64 0, .int .u64 0, .int .u32 0, .int .u8 0, .int .u8 0, .int .u8 0, .int .u8 0, .nilfn, .nilp, .int .i32 0, .int .i32 0],.struct [(0, 12), (1, 12), (2, 22), (3, 218), (4, 5), (5, 5), (6, 219), (7, 220), (8, 221), (9, 222), (10, 223)]⟩:=by kernel_rfl
theorem eqp24 : eqPlain Tryz.prog 24 = true := by kernel_rfl
theorem eqp25 : eqPlain Tryz.prog 25 = true := by kernel_rfl
theorem eqp27 : eqPlain Tryz.prog 27 = true := by kernel_rfl
theorem eqp29 : eqPlain Tryz.prog 29 = true := by kernel_rfl
theorem eqp34 : eqPlain Tryz.prog 34 = true := by kernel_rfl
theorem eqp106 : eqPlain Tryz.prog 106 = true := by kernel_rfl
theorem eqp115 : eqPlain Tryz.prog 115 = true := by kernel_rfl
theorem eqp117 : eqPlain Tryz.prog 117 = true := by kernel_rfl
theorem eqp119 : eqPlain Tryz.prog 119 = true := by kernel_rfl
theorem eqp151 : eqPlain Tryz.prog 151 = true := by kernel_rfl
theorem eqp211 : eqPlain Tryz.prog 211 = true := by kernel_rfl
theorem mixed : Tryz.prog.follows .mixedOrders = true := by kernel_rfl
theorem wD {id : Nat} {l : List Oper} {f : FR} {σ : St} {Q : MQ} (hchk : (chk l.toArray && l.all fun o => plainOp o.op) = true) (h : R (mopsC Tryz.prog (fun _ _ => none) (@OfNat.ofNat (Array Oper) (nat_lit 0) (@_root_.id (OfNat (Array Oper) (nat_lit 0)) (OfNat.mk (l.toArray)))) (Q .normal) (@OfNat.ofNat (List Oper) (nat_lit 0) (@_root_.id (OfNat (List Oper) (nat_lit 0)) (OfNat.mk l))) f σ)) : R (mdraw Tryz.prog id (@OfNat.ofNat (List Oper) (nat_lit 0) (@_root_.id (OfNat (List Oper) (nat_lit 0)) (OfNat.mk l))) f σ Q) := mdraw_plain mixed hchk h
attribute [go_sem] td1 td2 td3 td4 td5 td6 td7 td8 td9 td10 td11 td12 td13 td14 td15 td16 td17 td18 td19 td20 td21 td22 td23 td24 td25 td26 td27 td28 td29 td30 td31 td32 td33 td34 td35 td36 td37 td38 td39 td40 td41 td42 td43 td44 td46 td47 td48 td49 td50 td51 td52 td54 td56 td57 td58 td59 td60 td61 td62 td63 td64 td65 td66 td67 td68 td69 td70 td71 td72 td73 td74 td75 td76 td77 td78 td79 td80 td81 td82 td83 td84 td85 td86 td87 td88 td89 td90 td91 td92 td93 td94 td95 td96 td97 td98 td99 td100 td101 td102 td103 td104 td105 td106 td107 td108 td109 td110 td111 td112 td113 td114 td115 td116 td117 td118 td119 td120 td121 td122 td123 td124 td125 td126 td127 td128 td129 td130 td131 td132 td133 td134 td135 td136 td137 td138 td139 td140 td141 td142 td143 td144 td145 td146 td147 td148 td149 td150 td151 td152 td153 td154 td155 td156 td157 td158 td159 td160 td161 td162 td163 td164 td166 td167 td168 td170 td171 td172 td173 td175 td177 td178 td179 td180 td181 td182 td183 td184 td185 td186 td187 td188 td189 td191 td192 td193 td194 td195 td196 td198 td199 td200 td205 td209 td211 td214 td215 td217 td218 td219 td220 td221 td222 td223 td225 eqp24 eqp25 eqp27 eqp29 eqp34 eqp106 eqp115 eqp117 eqp119 eqp151 eqp211
end Go.Proofs.YtfbodefnblpflaaGreatDoor
end

section
namespace Go.Proofs.YtfbodefnblpflaaGreatDoor
theorem bytesOf_bc (l : BL) : bytesOf (l.map bc) = bsS l := by
 unfold bytesOf bsS
 congr 1
 rw [List.map_map]
 congr 1
 conv => rhs; rw [← List.map_id l]
 apply List.map_congr_left
 intro b _
 simp
theorem isByte_bc (l : BL) : (l.map bc).all isByte = true := by
 rw [List.all_eq_true]
 intro x hx
 obtain ⟨b, _, rfl⟩ := List.mem_map.1 hx
 rfl
theorem bc_of {n : Nat} (h : n < 256) : [MV.int .u8 (n : Int)] = bc (UInt8.ofNat n) := by rw [bc, u8_of h]
theorem wrap8 (v : Nat) : IntKind.u8.wrap (v : Int) = ((v % 256 : Nat) : Int) := by
 unfold IntKind.wrap
 simp [IntKind.bits, IntKind.signed]
theorem or128 : ∀ x : Nat, x < 256 → orK .u8 (x : Int) 128 = ((x % 128 + 128 : Nat) : Int) := by decide +kernel
theorem or8 (v : Nat) : orK .u8 (IntKind.u8.wrap (v : Int)) 128 = ((v % 128 + 128 : Nat) : Int) := by
 rw [wrap8]
 rw [or128 _ (Nat.mod_lt _ (by decide))]
 congr 2
 omega
class Sfx (bs : BL) (r : RD) : Prop where
 h : r.l <:+ bs
instance {bs : BL} {r : RD} {most : Int} [h : Sfx bs r] : Sfx bs (numR most r).2 := ⟨((numR_sk most).sfx r).trans h.h⟩
instance {bs : BL} {r : RD} {a b : Int} [h : Sfx bs r] : Sfx bs (fromR a b r).2 := ⟨((fromR_sk a b).sfx r).trans h.h⟩
instance {bs : BL} {r : RD} {most : Int} [h : Sfx bs r] : Sfx bs (strR most r).2 := ⟨((strR_sk most).sfx r).trans h.h⟩
instance {bs : BL} {r : RD} [h : Sfx bs r] : Sfx bs (flagR r).2 := ⟨(flagR_sk.sfx r).trans h.h⟩
instance {bs : BL} {r : RD} {e : Int} [h : Sfx bs r] : Sfx bs (failR e r) := ⟨by rw [failR_l]; exact h.h⟩
instance {bs : BL} {r : RD} [h : Sfx bs r] : Sfx bs (valR r).2 := ⟨(valR_sk.sfx r).trans h.h⟩
instance {bs : BL} {c : Prop} [Decidable c] {r s : RD} [h : Sfx bs r] [k : Sfx bs s] : Sfx bs (if c then r else s) := by
 split
 ·exact h
 ·exact k
theorem Sfx.len {bs : BL} {r : RD} (h : Sfx bs r) : r.l.length ≤ bs.length := h.h.length_le
theorem Sfx.drop {bs : BL} {r : RD} (h : Sfx bs r) : bs.drop (bs.length - r.l.length) = r.l := by
 obtain ⟨a, e⟩ := h.h
 rw [← e]
 simp
theorem use_obj {P : Program} {g : FuncId} {ms : List MV} {σ : St} {l : Nat} {o o' : MObj} {r : MV} {k : MV → St → Prop} (hs : σ l = some o) (h : MCalls P g ms (St.none.set l o) fun v σ' => v = r ∧ σ' = St.none.set l o') (hk : R (mlet r (σ.set l o') k)) : R (mcallE P g ms σ k) := by
 refine use_frame h (St.set_le (St.none_le _) hs) ?_
 rintro v σ' ⟨rfl, rfl⟩ -
 have e : (St.none.set l o').over (σ.minus (St.none.set l o)) = σ.set l o' := by
  funext j
  by_cases h : j = l
  ·subst h; simp [St.over, St.set]
  ·simp [St.over, St.set, St.minus, h, St.none]
 rw [e]
 exact hk
theorem ur0 {P : Program} {g : FuncId} {ms : List MV} {σ : St} {l : Nat} {o o' : MObj} {r : MV} {k : MV → St → Prop} (h : MCalls P g ms (St.none.set l o) fun v σ' => v = r ∧ σ' = St.none.set l o') (hk : R (mlet r (σ.set l o') k)) : R (mcallE P g ms (σ.set l o) k) :=
 use_obj (set_hit _ _ _) h (by rw [set_set]; exact hk)
theorem ur1 {P : Program} {g : FuncId} {ms : List MV} {σ : St} {l j : Nat} {o o' oj : MObj} {r : MV} {k : MV → St → Prop} (hne : j ≠ l) (h : MCalls P g ms (St.none.set l o) fun v σ' => v = r ∧ σ' = St.none.set l o') (hk : R (mlet r ((σ.set l o').set j oj) k)) : R (mcallE P g ms ((σ.set l o).set j oj) k) :=
 use_obj ((set_miss _ _ _ _ (Ne.symm hne)).trans (set_hit _ _ _)) h (by rw [set_comm _ _ _ (Ne.symm hne), set_set, ← set_comm _ _ _ (Ne.symm hne)]; exact hk)
theorem ur2 {P : Program} {g : FuncId} {ms : List MV} {σ : St} {l j i : Nat} {o o' oj oi : MObj} {r : MV} {k : MV → St → Prop} (hne : j ≠ l) (hni : i ≠ l) (h : MCalls P g ms (St.none.set l o) fun v σ' => v = r ∧ σ' = St.none.set l o') (hk : R (mlet r (((σ.set l o').set j oj).set i oi) k)) : R (mcallE P g ms (((σ.set l o).set j oj).set i oi) k) :=
 use_obj ((set_miss _ _ _ _ (Ne.symm hni)).trans ((set_miss _ _ _ _ (Ne.symm hne)).trans (set_hit _ _ _))) h (by rw [set_over2 _ _ _ _ _ (Ne.symm hne) (Ne.symm hni)]; exact hk)
theorem ur3 {P : Program} {g : FuncId} {ms : List MV} {σ : St} {l j i m : Nat} {o o' oj oi om : MObj} {r : MV} {k : MV → St → Prop} (hne : j ≠ l) (hni : i ≠ l) (hnm : m ≠ l) (h : MCalls P g ms (St.none.set l o) fun v σ' => v = r ∧ σ' = St.none.set l o') (hk : R (mlet r ((((σ.set l o').set j oj).set i oi).set m om) k)) : R (mcallE P g ms ((((σ.set l o).set j oj).set i oi).set m om) k) :=
 use_obj ((set_miss _ _ _ _ (Ne.symm hnm)).trans ((set_miss _ _ _ _ (Ne.symm hni)).trans ((set_miss _ _ _ _ (Ne.symm hne)).trans (set_hit _ _ _)))) h (by rw [set_over3 _ _ _ _ _ _ (Ne.symm hne) (Ne.symm hni) (Ne.symm hnm)]; exact hk)
def rowS (l : List (Nat × MV)) (e k : Nat) : List (Nat × MV) → Prop
 | [] => True
 | p :: r => (lget l p.1 = p.2 ∨ (p.2 = .vec e k 0 0 ∧ (lget l p.1 = .nils ∨ lget l p.1 = .lst e [] true))) ∧ rowS l e k r
theorem rowS_all {l : List (Nat × MV)} {e k : Nat} : ∀ {l1 : List (Nat × MV)}, rowS l e k l1 → ∀ p, p ∈ l1 → lget l p.1 = p.2 ∨ (p.2 = .vec e k 0 0 ∧ (lget l p.1 = .nils ∨ lget l p.1 = .lst e [] true))
 | [], _, p, hp => absurd hp (List.not_mem_nil)
 | q :: r, h, p, hp => by
  rcases List.mem_cons.1 hp with rfl | hp
  ·exact h.1
  ·exact rowS_all h.2 p hp
theorem Gh.rowNew {n : Nat} {l : List (Nat × MV)} {d : List (FuncId × List MV)} {σ : St} {K : FR → St → Prop} (t : TypeId) (e : Nat) (l1 : Nat → List (Nat × MV)) (h1 : ∀ k, rowS l e k (l1 k))
  (h : ∀ k, σ k = none → Gh ⟨n, l1 k, d⟩ (σ.set k (.row t e [])) K) : Gh ⟨n, l, d⟩ σ K := Gh.row t e l1 (fun k => rowS_all (h1 k)) h
theorem MCalls.obj {P : Program} {g : FuncId} {ms : List MV} {σ : St} {X : MV} {l : Nat} {o : MObj} (h : MCalls P g ms σ fun v σ' => v = X ∧ σ' l = some o) : MCalls P g ms σ fun v σ' => v = X ∧ σ' = St.none.set l o :=
 h.less fun v σ' k => ⟨St.none.set l o, St.set_le (St.none_le _) k.2, k.1, rfl⟩
abbrev rP (bs : BL) (r : RD) : MObj := .row 136 3 [[.lst 1 (bs.map bc) false, .int .i64 ((bs.length : Int) - (r.l.length : Int)), .int .i64 r.e]]
end Go.Proofs.YtfbodefnblpflaaGreatDoor
end
