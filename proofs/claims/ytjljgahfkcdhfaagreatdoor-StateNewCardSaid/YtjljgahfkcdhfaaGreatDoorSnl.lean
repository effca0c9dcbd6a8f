/- Parts of the proof, joined. Each part says what it proves, and under which conditions it does: those that its theorems name. -/
import Derived.Test.YtjljgahfkcdhfaaGreatDoorSnk
import Derived.Test.YtjljgahfkcdhfaaGreatDoorRows
import Derived.KernelRfl
set_option linter.unusedVariables false
set_option linter.unusedSimpArgs false
set_option maxHeartbeats 4000000
namespace Go.Proofs.YtjljgahfkcdhfaaGreatDoor
theorem td1:td Tryz.prog 1=⟨true,1,8,true,[.nilfn],.func⟩:=by kernel_rfl
theorem td2:td Tryz.prog 2=⟨true,1,8,true,[.int .i64 0],.int .i64⟩:=by kernel_rfl
theorem td3:td Tryz.prog 3=⟨true,1,8,true,[.int .i64 0],.int .i64⟩:=by kernel_rfl
theorem td4:td Tryz.prog 4=⟨true,1,1,true,[.bool false],.bool⟩:=by kernel_rfl
theorem td5:td Tryz.prog 5=⟨true,1,1,true,[.int .u8 0],.int .u8⟩:=by kernel_rfl
theorem td6:td Tryz.prog 6=⟨true,1,1,true,[.int .u8 0],.int .u8⟩:=by kernel_rfl
theorem td7:td Tryz.prog 7=⟨true,4,24,true,[.int .i64 0, .int .i64 0, .bool false, .int .u8 0],.struct [(0, 2), (1, 3), (2, 4), (3, 6)]⟩:=by kernel_rfl
theorem td8:td Tryz.prog 8=⟨true,4,24,true,[.int .i64 0, .int .i64 0, .bool false, .int .u8 0],.struct [(0, 2), (1, 3), (2, 4), (3, 6)]⟩:=by kernel_rfl
theorem td9:td Tryz.prog 9=⟨true,1,16,true,[.str ⟨#[]⟩],.str⟩:=by kernel_rfl
theorem td10:td Tryz.prog 10=⟨true,1,16,true,[.str ⟨#[]⟩],.str⟩:=by kernel_rfl
theorem td11:td Tryz.prog 11=⟨true,1,16,true,[.str ⟨#[]⟩],.str⟩:=by kernel_rfl
theorem td12:td Tryz.prog 12=⟨true,1,8,true,[.int .u64 0],.int .u64⟩:=by kernel_rfl
theorem td13:td Tryz.prog 13=⟨true,2,24,true,[.str ⟨#[]⟩, .int .u64 0],.struct [(0, 9), (1, 12)]⟩:=by kernel_rfl
theorem td14:td Tryz.prog 14=⟨true,2,24,true,[.str ⟨#[]⟩, .int .u64 0],.struct [(0, 9), (1, 12)]⟩:=by kernel_rfl
theorem td15:td Tryz.prog 15=⟨true,1,8,true,[.nilp],.ptr 294⟩:=by kernel_rfl
theorem td16:td Tryz.prog 16=⟨true,1,8,true,[.nilp],.ptr 297⟩:=by kernel_rfl
theorem td17:td Tryz.prog 17=⟨true,1,8,true,[.nilp],.ptr 305⟩:=by kernel_rfl
theorem td18:td Tryz.prog 18=⟨true,1,8,true,[.nilp],.struct [(0, 17)]⟩:=by kernel_rfl
theorem td19:td Tryz.prog 19=⟨true,1,8,true,[.nilp],.struct [(0, 17)]⟩:=by kernel_rfl
theorem td20:td Tryz.prog 20=⟨true,1,16,true,[.nili],.iface⟩:=by kernel_rfl
theorem td21:td Tryz.prog 21=⟨true,1,4,true,[.int .i32 0],.int .i32⟩:=by kernel_rfl
theorem td22:td Tryz.prog 22=⟨true,1,24,true,[.nils],.slice 81⟩:=by kernel_rfl
theorem td23:td Tryz.prog 23=⟨true,1,24,true,[.nils],.slice 110⟩:=by kernel_rfl
theorem td24:td Tryz.prog 24=⟨true,1,24,true,[.nils],.slice 91⟩:=by kernel_rfl
theorem td25:td Tryz.prog 25=⟨true,5,88,true,[.int .i64 0, .int .i64 0, .nils, .nils, .nils],.struct [(0, 3), (1, 3), (2, 22), (3, 23), (4, 24)]⟩:=by kernel_rfl
theorem td26:td Tryz.prog 26=⟨true,5,88,true,[.int .i64 0, .int .i64 0, .nils, .nils, .nils],.struct [(0, 3), (1, 3), (2, 22), (3, 23), (4, 24)]⟩:=by kernel_rfl
theorem td27:td Tryz.prog 27=⟨true,1,24,true,[.nils],.slice 63⟩:=by kernel_rfl
theorem td28:td Tryz.prog 28=⟨true,1,24,true,[.nils],.slice 41⟩:=by kernel_rfl
theorem td29:td Tryz.prog 29=⟨true,7,136,true,[.int .i64 0, .int .i64 0, .nils, .nils, .nils, .nils, .nils],.struct [(0, 26), (5, 27), (6, 28)]⟩:=by kernel_rfl
theorem td30:td Tryz.prog 30=⟨true,7,136,true,[.int .i64 0, .int .i64 0, .nils, .nils, .nils, .nils, .nils],.struct [(0, 26), (5, 27), (6, 28)]⟩:=by kernel_rfl
theorem td31:td Tryz.prog 31=⟨true,1,8,true,[.nilfn],.func⟩:=by kernel_rfl
theorem td32:td Tryz.prog 32=⟨true,1,8,true,[.nilfn],.func⟩:=by kernel_rfl
theorem td33:td Tryz.prog 33=⟨true,1,8,true,[.nilfn],.func⟩:=by kernel_rfl
theorem td34:td Tryz.prog 34=⟨true,1,8,true,[.nilfn],.func⟩:=by kernel_rfl
theorem td35:td Tryz.prog 35=⟨true,1,8,true,[.int .i64 0],.int .i64⟩:=by kernel_rfl
theorem td36:td Tryz.prog 36=⟨true,1,24,true,[.nils],.slice 132⟩:=by kernel_rfl
theorem td37:td Tryz.prog 37=⟨true,1,4,true,[.int .u32 0],.int .u32⟩:=by kernel_rfl
theorem td38:td Tryz.prog 38=⟨true,10,96,true,[.int .i64 0, .int .i64 0, .int .i64 0, .int .i64 0, .int .i64 0, .int .i64 0, .int .i64 0, .int .i64 0, .nils, .int .u32 0],.struct [(0, 3), (1, 3), (2, 3), (3, 35), (4, 3), (5, 3), (6, 3), (7, 3), (8, 36), (9, 37)]⟩:=by kernel_rfl
theorem td39:td Tryz.prog 39=⟨true,10,96,true,[.int .i64 0, .int .i64 0, .int .i64 0, .int .i64 0, .int .i64 0, .int .i64 0, .int .i64 0, .int .i64 0, .nils, .int .u32 0],.struct [(0, 3), (1, 3), (2, 3), (3, 35), (4, 3), (5, 3), (6, 3), (7, 3), (8, 36), (9, 37)]⟩:=by kernel_rfl
theorem td40:td Tryz.prog 40=⟨true,12,112,true,[.int .i64 0, .int .i64 0, .int .i64 0, .int .i64 0, .int .i64 0, .int .i64 0, .int .i64 0, .int .i64 0, .int .i64 0, .int .i64 0, .nils, .int .u32 0],.struct [(0, 3), (1, 3), (2, 39)]⟩:=by kernel_rfl
theorem td41:td Tryz.prog 41=⟨true,12,112,true,[.int .i64 0, .int .i64 0, .int .i64 0, .int .i64 0, .int .i64 0, .int .i64 0, .int .i64 0, .int .i64 0, .int .i64 0, .int .i64 0, .nils, .int .u32 0],.struct [(0, 3), (1, 3), (2, 39)]⟩:=by kernel_rfl
theorem td42:td Tryz.prog 42=⟨true,1,8,true,[.nilfn],.func⟩:=by kernel_rfl
theorem td43:td Tryz.prog 43=⟨true,1,8,true,[.nilfn],.func⟩:=by kernel_rfl
theorem td44:td Tryz.prog 44=⟨true,1,8,true,[.nilfn],.func⟩:=by kernel_rfl
theorem td45:td Tryz.prog 45=⟨true,1,8,true,[.nilfn],.func⟩:=by kernel_rfl
theorem td46:td Tryz.prog 46=⟨true,1,8,true,[.nilfn],.func⟩:=by kernel_rfl
theorem td47:td Tryz.prog 47=⟨true,1,8,true,[.nilp],.ptr 86⟩:=by kernel_rfl
theorem td48:td Tryz.prog 48=⟨true,1,8,true,[.nilfn],.func⟩:=by kernel_rfl
theorem td49:td Tryz.prog 49=⟨true,1,8,true,[.nilfn],.func⟩:=by kernel_rfl
theorem td50:td Tryz.prog 50=⟨true,1,8,true,[.nilp],.ptr 102⟩:=by kernel_rfl
theorem td51:td Tryz.prog 51=⟨true,1,8,true,[.nilfn],.func⟩:=by kernel_rfl
theorem td52:td Tryz.prog 52=⟨true,1,8,true,[.nilfn],.func⟩:=by kernel_rfl
theorem td54:td Tryz.prog 54=⟨true,1,8,true,[.nilfn],.func⟩:=by kernel_rfl
theorem td55:td Tryz.prog 55=⟨true,1,8,true,[.nilp],.ptr 122⟩:=by kernel_rfl
theorem td57:td Tryz.prog 57=⟨true,1,8,true,[.nilfn],.func⟩:=by kernel_rfl
theorem td59:td Tryz.prog 59=⟨true,1,8,true,[.nilfn],.func⟩:=by kernel_rfl
theorem td60:td Tryz.prog 60=⟨true,1,24,true,[.nils],.slice 3⟩:=by kernel_rfl
theorem td61:td Tryz.prog 61=⟨true,1,24,true,[.nils],.slice 152⟩:=by kernel_rfl
theorem td62:td Tryz.prog 62=⟨true,7,104,true,[.int .i64 0, .int .i64 0, .nils, .int .u32 0, .int .i64 0, .nils, .nils],.struct [(0, 3), (1, 3), (2, 36), (3, 37), (4, 3), (5, 60), (6, 61)]⟩:=by kernel_rfl
theorem td63:td Tryz.prog 63=⟨true,7,104,true,[.int .i64 0, .int .i64 0, .nils, .int .u32 0, .int .i64 0, .nils, .nils],.struct [(0, 3), (1, 3), (2, 36), (3, 37), (4, 3), (5, 60), (6, 61)]⟩:=by kernel_rfl
theorem td64:td Tryz.prog 64=⟨true,1,24,true,[.nils],.slice 42⟩:=by kernel_rfl
theorem td65:td Tryz.prog 65=⟨true,1,8,true,[.nilfn],.func⟩:=by kernel_rfl
theorem td66:td Tryz.prog 66=⟨true,1,8,true,[.nilp],.ptr 145⟩:=by kernel_rfl
theorem td67:td Tryz.prog 67=⟨true,1,8,true,[.nilfn],.func⟩:=by kernel_rfl
theorem td68:td Tryz.prog 68=⟨true,1,8,true,[.nilfn],.func⟩:=by kernel_rfl
theorem td69:td Tryz.prog 69=⟨true,1,8,true,[.nilfn],.func⟩:=by kernel_rfl
theorem td70:td Tryz.prog 70=⟨true,1,8,true,[.nilfn],.func⟩:=by kernel_rfl
theorem td71:td Tryz.prog 71=⟨true,1,8,true,[.nilfn],.func⟩:=by kernel_rfl
theorem td72:td Tryz.prog 72=⟨true,1,8,true,[.nilfn],.func⟩:=by kernel_rfl
theorem td73:td Tryz.prog 73=⟨true,1,8,true,[.nilfn],.func⟩:=by kernel_rfl
theorem td74:td Tryz.prog 74=⟨true,1,8,true,[.nilfn],.func⟩:=by kernel_rfl
theorem td75:td Tryz.prog 75=⟨true,1,8,true,[.nilfn],.func⟩:=by kernel_rfl
theorem td76:td Tryz.prog 76=⟨true,1,8,true,[.nilfn],.func⟩:=by kernel_rfl
theorem td77:td Tryz.prog 77=⟨true,3,32,true,[.int .i64 0, .int .i64 0, .str ⟨#[]⟩],.struct [(0, 3), (1, 3), (2, 9)]⟩:=by kernel_rfl
theorem td78:td Tryz.prog 78=⟨true,3,32,true,[.int .i64 0, .int .i64 0, .str ⟨#[]⟩],.struct [(0, 3), (1, 3), (2, 9)]⟩:=by kernel_rfl
theorem td79:td Tryz.prog 79=⟨true,24,256,true,[.int .i64 0, .int .i64 0, .str ⟨#[]⟩, .int .i64 0, .int .i64 0, .str ⟨#[]⟩, .int .i64 0, .int .i64 0, .str ⟨#[]⟩, .int .i64 0, .int .i64 0, .str ⟨#[]⟩, .int .i64 0, .int .i64 0, .str ⟨#[]⟩, .int .i64 0, .int .i64 0, .str ⟨#[]⟩, .int .i64 0, .int .i64 0, .str ⟨#[]⟩, .int .i64 0, .int .i64 0, .str ⟨#[]⟩],.array 8 78⟩:=by kernel_rfl
theorem td80:td Tryz.prog 80=⟨true,27,280,true,[.int .i64 0, .int .i64 0, .int .u32 0, .int .i64 0, .int .i64 0, .str ⟨#[]⟩, .int .i64 0, .int .i64 0, .str ⟨#[]⟩, .int .i64 0, .int .i64 0, .str ⟨#[]⟩, .int .i64 0, .int .i64 0, .str ⟨#[]⟩, .int .i64 0, .int .i64 0, .str ⟨#[]⟩, .int .i64 0, .int .i64 0, .str ⟨#[]⟩, .int .i64 0, .int .i64 0, .str ⟨#[]⟩, .int .i64 0, .int .i64 0, .str ⟨#[]⟩],.struct [(0, 3), (1, 3), (2, 37), (3, 79)]⟩:=by kernel_rfl
theorem td81:td Tryz.prog 81=⟨true,27,280,true,[.int .i64 0, .int .i64 0, .int .u32 0, .int .i64 0, .int .i64 0, .str ⟨#[]⟩, .int .i64 0, .int .i64 0, .str ⟨#[]⟩, .int .i64 0, .int .i64 0, .str ⟨#[]⟩, .int .i64 0, .int .i64 0, .str ⟨#[]⟩, .int .i64 0, .int .i64 0, .str ⟨#[]⟩, .int .i64 0, .int .i64 0, .str ⟨#[]⟩, .int .i64 0, .int .i64 0, .str ⟨#[]⟩, .int .i64 0, .int .i64 0, .str ⟨#[]⟩],.struct [(0, 3), (1, 3), (2, 37), (3, 79)]⟩:=by kernel_rfl
theorem td82:td Tryz.prog 82=⟨true,1,8,true,[.nilfn],.func⟩:=by kernel_rfl
theorem td83:td Tryz.prog 83=⟨true,1,8,true,[.nilp],.ptr 167⟩:=by kernel_rfl
theorem td84:td Tryz.prog 84=⟨true,1,8,true,[.nilfn],.func⟩:=by kernel_rfl
theorem td85:td Tryz.prog 85=⟨true,3,40,true,[.int .i64 0, .nilp, .nils],.struct [(0, 3), (1, 83), (2, 24)]⟩:=by kernel_rfl
theorem td86:td Tryz.prog 86=⟨true,3,40,true,[.int .i64 0, .nilp, .nils],.struct [(0, 3), (1, 83), (2, 24)]⟩:=by kernel_rfl
theorem td87:td Tryz.prog 87=⟨true,1,8,true,[.nilfn],.func⟩:=by kernel_rfl
theorem td88:td Tryz.prog 88=⟨true,1,8,true,[.nilfn],.func⟩:=by kernel_rfl
theorem td89:td Tryz.prog 89=⟨true,1,8,true,[.nilfn],.func⟩:=by kernel_rfl
theorem td90:td Tryz.prog 90=⟨true,2,32,true,[.int .i64 0, .nils],.struct [(0, 3), (1, 60)]⟩:=by kernel_rfl
theorem td91:td Tryz.prog 91=⟨true,2,32,true,[.int .i64 0, .nils],.struct [(0, 3), (1, 60)]⟩:=by kernel_rfl
theorem td92:td Tryz.prog 92=⟨true,1,8,true,[.nilfn],.func⟩:=by kernel_rfl
theorem td93:td Tryz.prog 93=⟨true,0,0,true,[],.struct []⟩:=by kernel_rfl
theorem td94:td Tryz.prog 94=⟨true,0,0,true,[],.struct []⟩:=by kernel_rfl
theorem td95:td Tryz.prog 95=⟨true,0,0,true,[],.struct []⟩:=by kernel_rfl
theorem td96:td Tryz.prog 96=⟨true,1,8,true,[.int .i64 0],.struct [(0, 94), (0, 95), (0, 2)]⟩:=by kernel_rfl
theorem td97:td Tryz.prog 97=⟨true,1,8,true,[.int .i64 0],.struct [(0, 94), (0, 95), (0, 2)]⟩:=by kernel_rfl
theorem td98:td Tryz.prog 98=⟨true,12,112,true,[.int .i64 0, .int .i64 0, .int .i64 0, .int .i64 0, .int .i64 0, .int .i64 0, .int .i64 0, .int .i64 0, .int .i64 0, .int .i64 0, .nils, .int .u32 0],.struct [(0, 3), (1, 97), (2, 39)]⟩:=by kernel_rfl
theorem td99:td Tryz.prog 99=⟨true,12,112,true,[.int .i64 0, .int .i64 0, .int .i64 0, .int .i64 0, .int .i64 0, .int .i64 0, .int .i64 0, .int .i64 0, .int .i64 0, .int .i64 0, .nils, .int .u32 0],.struct [(0, 3), (1, 97), (2, 39)]⟩:=by kernel_rfl
theorem td100:td Tryz.prog 100=⟨true,72,672,true,[.int .i64 0, .int .i64 0, .int .i64 0, .int .i64 0, .int .i64 0, .int .i64 0, .int .i64 0, .int .i64 0, .int .i64 0, .int .i64 0, .nils, .int .u32 0, .int .i64 0, .int .i64 0, .int .i64 0, .int .i64 0, .int .i64 0, .int .i64 0, .int .i64 0, .int .i64 0, .int .i64 0, .int .i64 0, .nils, .int .u32 0, .int .i64 0, .int .i64 0, .int .i64 0, .int .i64 0, .int .i64 0, .int .i64 0, .int .i64 0, .int .i64 0, .int .i64 0, .int .i64 0, .nils, .int .u32 0, .int .i64 0, .int .i64 0, .int .i64 0, .int .i64 0, .int .i64 0, .int .i64 0, .int .i64 0, .int .i64 0, .int .i64 0, .int .i64 0, .nils, .int .u32 0, .int .i64 0, .int .i64 0, .int .i64 0, .int .i64 0, .int .i64 0, .int .i64 0, .int .i64 0, .int .i64 0, .int .i64 0, .int .i64 0, .nils, .int .u32 0, .int .i64 0, .int .i64 0, .int .i64 0, .int .i64 0, .int .i64 0, .int .i64 0, .int .i64 0, .int .i64 0, .int .i64 0, .int .i64 0, .nils, .int .u32 0],.array 6 99⟩:=by kernel_rfl
theorem td101:td Tryz.prog 101=⟨true,72,672,true,[.int .i64 0, .int .i64 0, .int .i64 0, .int .i64 0, .int .i64 0, .int .i64 0, .int .i64 0, .int .i64 0, .int .i64 0, .int .i64 0, .nils, .int .u32 0, .int .i64 0, .int .i64 0, .int .i64 0, .int .i64 0, .int .i64 0, .int .i64 0, .int .i64 0, .int .i64 0, .int .i64 0, .int .i64 0, .nils, .int .u32 0, .int .i64 0, .int .i64 0, .int .i64 0, .int .i64 0, .int .i64 0, .int .i64 0, .int .i64 0, .int .i64 0, .int .i64 0, .int .i64 0, .nils, .int .u32 0, .int .i64 0, .int .i64 0, .int .i64 0, .int .i64 0, .int .i64 0, .int .i64 0, .int .i64 0, .int .i64 0, .int .i64 0, .int .i64 0, .nils, .int .u32 0, .int .i64 0, .int .i64 0, .int .i64 0, .int .i64 0, .int .i64 0, .int .i64 0, .int .i64 0, .int .i64 0, .int .i64 0, .int .i64 0, .nils, .int .u32 0, .int .i64 0, .int .i64 0, .int .i64 0, .int .i64 0, .int .i64 0, .int .i64 0, .int .i64 0, .int .i64 0, .int .i64 0, .int .i64 0, .nils, .int .u32 0],.struct [(0, 100)]⟩:=by kernel_rfl
theorem td102:td Tryz.prog 102=⟨true,72,672,true,[.int .i64 0, .int .i64 0, .int .i64 0, .int .i64 0, .int .i64 0, .int .i64 0, .int .i64 0, .int .i64 0, .int .i64 0, .int .i64 0, .nils, .int .u32 0, .int .i64 0, .int .i64 0, .int .i64 0, .int .i64 0, .int .i64 0, .int .i64 0, .int .i64 0, .int .i64 0, .int .i64 0, .int .i64 0, .nils, .int .u32 0, .int .i64 0, .int .i64 0, .int .i64 0, .int .i64 0, .int .i64 0, .int .i64 0, .int .i64 0, .int .i64 0, .int .i64 0, .int .i64 0, .nils, .int .u32 0, .int .i64 0, .int .i64 0, .int .i64 0, .int .i64 0, .int .i64 0, .int .i64 0, .int .i64 0, .int .i64 0, .int .i64 0, .int .i64 0, .nils, .int .u32 0, .int .i64 0, .int .i64 0, .int .i64 0, .int .i64 0, .int .i64 0, .int .i64 0, .int .i64 0, .int .i64 0, .int .i64 0, .int .i64 0, .nils, .int .u32 0, .int .i64 0, .int .i64 0, .int .i64 0, .int .i64 0, .int .i64 0, .int .i64 0, .int .i64 0, .int .i64 0, .int .i64 0, .int .i64 0, .nils, .int .u32 0],.struct [(0, 100)]⟩:=by kernel_rfl
theorem td103:td Tryz.prog 103=⟨true,1,8,true,[.nilp],.ptr 99⟩:=by kernel_rfl
theorem td104:td Tryz.prog 104=⟨true,1,8,true,[.nilfn],.func⟩:=by kernel_rfl
theorem td105:td Tryz.prog 105=⟨true,1,8,true,[.nilfn],.func⟩:=by kernel_rfl
theorem td107:td Tryz.prog 107=⟨true,1,8,true,[.nilfn],.func⟩:=by kernel_rfl
theorem td108:td Tryz.prog 108=⟨true,1,8,true,[.nilfn],.func⟩:=by kernel_rfl
theorem td109:td Tryz.prog 109=⟨true,3,24,true,[.int .i64 0, .int .i64 0, .int .i64 0],.struct [(0, 3), (1, 3), (2, 3)]⟩:=by kernel_rfl
theorem td110:td Tryz.prog 110=⟨true,3,24,true,[.int .i64 0, .int .i64 0, .int .i64 0],.struct [(0, 3), (1, 3), (2, 3)]⟩:=by kernel_rfl
theorem td111:td Tryz.prog 111=⟨true,1,8,true,[.nilfn],.func⟩:=by kernel_rfl
theorem td112:td Tryz.prog 112=⟨true,1,8,true,[.nilfn],.func⟩:=by kernel_rfl
theorem td113:td Tryz.prog 113=⟨true,1,8,true,[.nilp],.ptr 186⟩:=by kernel_rfl
theorem td115:td Tryz.prog 115=⟨true,1,8,true,[.nilfn],.func⟩:=by kernel_rfl
theorem td116:td Tryz.prog 116=⟨true,1,8,true,[.nilfn],.func⟩:=by kernel_rfl
theorem td117:td Tryz.prog 117=⟨true,1,8,true,[.nilfn],.func⟩:=by kernel_rfl
theorem td118:td Tryz.prog 118=⟨true,2,16,true,[.int .i64 0, .nilp],.struct [(0, 3), (1, 113)]⟩:=by kernel_rfl
theorem td119:td Tryz.prog 119=⟨true,2,16,true,[.int .i64 0, .nilp],.struct [(0, 3), (1, 113)]⟩:=by kernel_rfl
theorem td120:td Tryz.prog 120=⟨true,1,8,true,[.nilm],.map 3 119⟩:=by kernel_rfl
theorem td121:td Tryz.prog 121=⟨true,1,8,true,[.nilm],.struct [(0, 120)]⟩:=by kernel_rfl
theorem td122:td Tryz.prog 122=⟨true,1,8,true,[.nilm],.struct [(0, 120)]⟩:=by kernel_rfl
theorem td123:td Tryz.prog 123=⟨true,1,8,true,[.nilfn],.func⟩:=by kernel_rfl
theorem td124:td Tryz.prog 124=⟨true,1,8,true,[.nilfn],.func⟩:=by kernel_rfl
theorem td125:td Tryz.prog 125=⟨true,1,8,true,[.nilfn],.func⟩:=by kernel_rfl
theorem td126:td Tryz.prog 126=⟨true,1,8,true,[.nilfn],.func⟩:=by kernel_rfl
theorem td127:td Tryz.prog 127=⟨true,1,8,true,[.nilfn],.func⟩:=by kernel_rfl
theorem td128:td Tryz.prog 128=⟨true,1,8,true,[.nilfn],.func⟩:=by kernel_rfl
theorem td129:td Tryz.prog 129=⟨true,1,8,true,[.nilfn],.func⟩:=by kernel_rfl
theorem td130:td Tryz.prog 130=⟨true,1,8,true,[.nilfn],.func⟩:=by kernel_rfl
theorem td131:td Tryz.prog 131=⟨true,5,48,true,[.int .i64 0, .int .i64 0, .int .i64 0, .int .i64 0, .str ⟨#[]⟩],.struct [(0, 3), (1, 3), (2, 78)]⟩:=by kernel_rfl
theorem td132:td Tryz.prog 132=⟨true,5,48,true,[.int .i64 0, .int .i64 0, .int .i64 0, .int .i64 0, .str ⟨#[]⟩],.struct [(0, 3), (1, 3), (2, 78)]⟩:=by kernel_rfl
theorem td133:td Tryz.prog 133=⟨true,0,0,true,[],.struct []⟩:=by kernel_rfl
theorem td134:td Tryz.prog 134=⟨true,1,4,true,[.int .u32 0],.struct [(0, 94), (0, 37)]⟩:=by kernel_rfl
theorem td135:td Tryz.prog 135=⟨true,1,4,true,[.int .u32 0],.struct [(0, 94), (0, 37)]⟩:=by kernel_rfl
theorem td136:td Tryz.prog 136=⟨true,2,8,true,[.int .i32 0, .int .u32 0],.struct [(0, 21), (1, 37)]⟩:=by kernel_rfl
theorem td137:td Tryz.prog 137=⟨true,2,8,true,[.int .i32 0, .int .u32 0],.struct [(0, 21), (1, 37)]⟩:=by kernel_rfl
theorem td138:td Tryz.prog 138=⟨true,2,8,true,[.int .i32 0, .int .u32 0],.struct [(0, 133), (0, 137)]⟩:=by kernel_rfl
theorem td139:td Tryz.prog 139=⟨true,2,8,true,[.int .i32 0, .int .u32 0],.struct [(0, 133), (0, 137)]⟩:=by kernel_rfl
theorem td140:td Tryz.prog 140=⟨true,3,12,true,[.int .u32 0, .int .i32 0, .int .u32 0],.struct [(0, 133), (0, 135), (1, 139)]⟩:=by kernel_rfl
theorem td141:td Tryz.prog 141=⟨true,3,12,true,[.int .u32 0, .int .i32 0, .int .u32 0],.struct [(0, 133), (0, 135), (1, 139)]⟩:=by kernel_rfl
theorem td142:td Tryz.prog 142=⟨true,1,8,true,[.nilfn],.func⟩:=by kernel_rfl
theorem td143:td Tryz.prog 143=⟨true,1,8,true,[.nilfn],.func⟩:=by kernel_rfl
theorem td144:td Tryz.prog 144=⟨true,5,48,true,[.nils, .int .u32 0, .int .i32 0, .int .u32 0, .nilfn],.struct [(0, 36), (1, 141), (4, 143)]⟩:=by kernel_rfl
theorem td145:td Tryz.prog 145=⟨true,5,48,true,[.nils, .int .u32 0, .int .i32 0, .int .u32 0, .nilfn],.struct [(0, 36), (1, 141), (4, 143)]⟩:=by kernel_rfl
theorem td146:td Tryz.prog 146=⟨true,1,8,true,[.nilfn],.func⟩:=by kernel_rfl
theorem td147:td Tryz.prog 147=⟨true,1,8,true,[.nilfn],.func⟩:=by kernel_rfl
theorem td148:td Tryz.prog 148=⟨true,1,8,true,[.nilfn],.func⟩:=by kernel_rfl
theorem td149:td Tryz.prog 149=⟨true,1,8,true,[.nilfn],.func⟩:=by kernel_rfl
theorem td150:td Tryz.prog 150=⟨true,1,8,true,[.nilfn],.func⟩:=by kernel_rfl
theorem td151:td Tryz.prog 151=⟨true,31,312,true,[.int .i64 0, .int .i64 0, .int .i64 0, .int .i64 0, .int .i64 0, .int .i64 0, .int .u32 0, .int .i64 0, .int .i64 0, .str ⟨#[]⟩, .int .i64 0, .int .i64 0, .str ⟨#[]⟩, .int .i64 0, .int .i64 0, .str ⟨#[]⟩, .int .i64 0, .int .i64 0, .str ⟨#[]⟩, .int .i64 0, .int .i64 0, .str ⟨#[]⟩, .int .i64 0, .int .i64 0, .str ⟨#[]⟩, .int .i64 0, .int .i64 0, .str ⟨#[]⟩, .int .i64 0, .int .i64 0, .str ⟨#[]⟩],.struct [(0, 3), (1, 3), (2, 3), (3, 3), (4, 81)]⟩:=by kernel_rfl
theorem td152:td Tryz.prog 152=⟨true,31,312,true,[.int .i64 0, .int .i64 0, .int .i64 0, .int .i64 0, .int .i64 0, .int .i64 0, .int .u32 0, .int .i64 0, .int .i64 0, .str ⟨#[]⟩, .int .i64 0, .int .i64 0, .str ⟨#[]⟩, .int .i64 0, .int .i64 0, .str ⟨#[]⟩, .int .i64 0, .int .i64 0, .str ⟨#[]⟩, .int .i64 0, .int .i64 0, .str ⟨#[]⟩, .int .i64 0, .int .i64 0, .str ⟨#[]⟩, .int .i64 0, .int .i64 0, .str ⟨#[]⟩, .int .i64 0, .int .i64 0, .str ⟨#[]⟩],.struct [(0, 3), (1, 3), (2, 3), (3, 3), (4, 81)]⟩:=by kernel_rfl
theorem td153:td Tryz.prog 153=⟨true,3,56,true,[.int .i64 0, .nils, .nils],.struct [(0, 3), (1, 22), (2, 23)]⟩:=by kernel_rfl
theorem td154:td Tryz.prog 154=⟨true,3,56,true,[.int .i64 0, .nils, .nils],.struct [(0, 3), (1, 22), (2, 23)]⟩:=by kernel_rfl
theorem td155:td Tryz.prog 155=⟨true,5,88,true,[.int .i64 0, .int .i64 0, .nils, .nils, .nils],.struct [(0, 3), (1, 154), (4, 24)]⟩:=by kernel_rfl
theorem td156:td Tryz.prog 156=⟨true,5,88,true,[.int .i64 0, .int .i64 0, .nils, .nils, .nils],.struct [(0, 3), (1, 154), (4, 24)]⟩:=by kernel_rfl
theorem td157:td Tryz.prog 157=⟨true,1,8,true,[.nilfn],.func⟩:=by kernel_rfl
theorem td158:td Tryz.prog 158=⟨true,1,8,true,[.nilfn],.func⟩:=by kernel_rfl
theorem td159:td Tryz.prog 159=⟨true,1,8,true,[.nilfn],.func⟩:=by kernel_rfl
theorem td160:td Tryz.prog 160=⟨true,1,8,true,[.nilfn],.func⟩:=by kernel_rfl
theorem td161:td Tryz.prog 161=⟨true,1,8,true,[.nilfn],.func⟩:=by kernel_rfl
theorem td162:td Tryz.prog 162=⟨true,1,8,true,[.nilfn],.func⟩:=by kernel_rfl
theorem td163:td Tryz.prog 163=⟨true,1,8,true,[.nilfn],.func⟩:=by kernel_rfl
theorem td164:td Tryz.prog 164=⟨true,1,8,true,[.nilfn],.func⟩:=by kernel_rfl
theorem td165:td Tryz.prog 165=⟨true,1,8,true,[.nilm],.map 3 81⟩:=by kernel_rfl
theorem td166:td Tryz.prog 166=⟨true,3,40,true,[.int .i64 0, .nilm, .nils],.struct [(0, 3), (1, 165), (2, 23)]⟩:=by kernel_rfl
theorem td167:td Tryz.prog 167=⟨true,3,40,true,[.int .i64 0, .nilm, .nils],.struct [(0, 3), (1, 165), (2, 23)]⟩:=by kernel_rfl
theorem td168:td Tryz.prog 168=⟨true,1,8,true,[.nilfn],.func⟩:=by kernel_rfl
theorem td169:td Tryz.prog 169=⟨true,1,8,true,[.nilfn],.func⟩:=by kernel_rfl
theorem td170:td Tryz.prog 170=⟨true,1,8,true,[.nilfn],.func⟩:=by kernel_rfl
theorem td171:td Tryz.prog 171=⟨true,1,8,true,[.nilfn],.func⟩:=by kernel_rfl
theorem td172:td Tryz.prog 172=⟨true,1,8,true,[.nilfn],.func⟩:=by kernel_rfl
theorem td173:td Tryz.prog 173=⟨true,1,8,true,[.nilp],.ptr 97⟩:=by kernel_rfl
theorem td174:td Tryz.prog 174=⟨true,1,8,true,[.nilfn],.func⟩:=by kernel_rfl
theorem td175:td Tryz.prog 175=⟨true,1,8,true,[.nilp],.ptr 2⟩:=by kernel_rfl
theorem td176:td Tryz.prog 176=⟨true,1,8,true,[.nilfn],.func⟩:=by kernel_rfl
theorem td179:td Tryz.prog 179=⟨true,1,8,true,[.nilfn],.func⟩:=by kernel_rfl
theorem td180:td Tryz.prog 180=⟨true,1,8,true,[.nilfn],.func⟩:=by kernel_rfl
theorem td181:td Tryz.prog 181=⟨true,3,3,true,[.bool false, .bool false, .bool false],.struct [(0, 4), (1, 4), (2, 4)]⟩:=by kernel_rfl
theorem td183:td Tryz.prog 183=⟨true,1,8,true,[.nilfn],.func⟩:=by kernel_rfl
theorem td184:td Tryz.prog 184=⟨true,1,8,true,[.nilm],.map 3 3⟩:=by kernel_rfl
theorem td185:td Tryz.prog 185=⟨true,6,64,true,[.nilp, .int .u32 0, .nilm, .int .i64 0, .int .i64 0, .nils],.struct [(0, 66), (1, 37), (2, 184), (3, 3), (4, 3), (5, 61)]⟩:=by kernel_rfl
theorem td186:td Tryz.prog 186=⟨true,6,64,true,[.nilp, .int .u32 0, .nilm, .int .i64 0, .int .i64 0, .nils],.struct [(0, 66), (1, 37), (2, 184), (3, 3), (4, 3), (5, 61)]⟩:=by kernel_rfl
theorem td187:td Tryz.prog 187=⟨true,1,8,true,[.nilfn],.func⟩:=by kernel_rfl
theorem td188:td Tryz.prog 188=⟨true,1,8,true,[.nilfn],.func⟩:=by kernel_rfl
theorem td189:td Tryz.prog 189=⟨true,1,8,true,[.nilfn],.func⟩:=by kernel_rfl
theorem td190:td Tryz.prog 190=⟨true,1,8,true,[.nilfn],.func⟩:=by kernel_rfl
theorem td191:td Tryz.prog 191=⟨true,1,8,true,[.nilfn],.func⟩:=by kernel_rfl
theorem td192:td Tryz.prog 192=⟨true,1,8,true,[.nilfn],.func⟩:=by kernel_rfl
theorem td193:td Tryz.prog 193=⟨true,1,8,true,[.nilfn],.func⟩:=by kernel_rfl
theorem td194:td Tryz.prog 194=⟨true,1,8,true,[.nilfn],.func⟩:=by kernel_rfl
theorem td195:td Tryz.prog 195=⟨true,1,8,true,[.nilfn],.func⟩:=by kernel_rfl
theorem td196:td Tryz.prog 196=⟨true,1,8,true,[.nilfn],.func⟩:=by kernel_rfl
theorem td197:td Tryz.prog 197=⟨true,1,8,true,[.nilfn],.func⟩:=by kernel_rfl
theorem td200:td Tryz.prog 200=⟨true,1,8,true,[.nilfn],.func⟩:=by kernel_rfl
theorem td202:td Tryz.prog 202=⟨true,1,8,true,[.nilfn],.func⟩:=by kernel_rfl
theorem td203:td Tryz.prog 203=⟨true,1,8,true,[.nilfn],.func⟩:=by kernel_rfl
theorem td204:td Tryz.prog 204=⟨true,1,8,true,[.nilfn],.func⟩:=by kernel_rfl
theorem td205:td Tryz.prog 205=⟨true,1,8,true,[.nilfn],.func⟩:=by kernel_rfl
theorem td208:td Tryz.prog 208=⟨true,1,8,true,[.nilfn],.func⟩:=by kernel_rfl
theorem td209:td Tryz.prog 209=⟨true,1,8,true,[.nilfn],.func⟩:=by kernel_rfl
theorem td210:td Tryz.prog 210=⟨true,1,8,true,[.nilfn],.func⟩:=by kernel_rfl
theorem td212:td Tryz.prog 212=⟨true,1,8,true,[.nilfn],.func⟩:=by kernel_rfl
theorem td213:td Tryz.prog 213=⟨true,1,8,true,[.nilfn],.func⟩:=by kernel_rfl
theorem td216:td Tryz.prog 216=⟨true,1,8,true,[.nilfn],.func⟩:=by kernel_rfl
theorem td217:td Tryz.prog 217=⟨true,1,8,true,[.nilfn],.func⟩:=by kernel_rfl
theorem td218:td Tryz.prog 218=⟨true,1,8,true,[.int .u64 0],.int .u64⟩:=by kernel_rfl
theorem td219:td Tryz.prog 219=⟨true,1,8,true,[.nilfn],.func⟩:=by kernel_rfl
theorem td220:td Tryz.prog 220=⟨true,1,24,true,[.nils],.slice 78⟩:=by kernel_rfl
theorem td221:td Tryz.prog 221=⟨true,1,8,true,[.nilfn],.func⟩:=by kernel_rfl
theorem td224:td Tryz.prog 224=⟨true,1,8,true,[.nilfn],.func⟩:=by kernel_rfl
theorem td228:td Tryz.prog 228=⟨true,1,8,true,[.nilfn],.func⟩:=by kernel_rfl
theorem td229:td Tryz.prog 229=⟨true,1,8,true,[.nilfn],.func⟩:=by kernel_rfl
theorem td233:td Tryz.prog 233=⟨true,1,8,true,[.nilfn],.func⟩:=by kernel_rfl
theorem td237:td Tryz.prog 237=⟨true,1,8,true,[.nilfn],.func⟩:=by kernel_rfl
theorem td238:td Tryz.prog 238=⟨true,1,8,true,[.nilfn],.func⟩:=by kernel_rfl
theorem td243:td Tryz.prog 243=⟨true,1,8,true,[.nilp],.ptr 141⟩:=by kernel_rfl
theorem td244:td Tryz.prog 244=⟨true,1,8,true,[.nilfn],.func⟩:=by kernel_rfl
theorem td245:td Tryz.prog 245=⟨true,1,8,true,[.nilfn],.func⟩:=by kernel_rfl
theorem td246:td Tryz.prog 246=⟨true,1,8,true,[.nilfn],.func⟩:=by kernel_rfl
theorem td248:td Tryz.prog 248=⟨true,1,8,true,[.nilfn],.func⟩:=by kernel_rfl
theorem td249:td Tryz.prog 249=⟨true,1,8,true,[.nilfn],.func⟩:=by kernel_rfl
theorem td250:td Tryz.prog 250=⟨true,1,8,true,[.int .i64 0],.int .i64⟩:=by kernel_rfl
theorem td253:td Tryz.prog 253=⟨true,1,8,true,[.nilfn],.func⟩:=by kernel_rfl
theorem td256:td Tryz.prog 256=⟨true,1,8,true,[.nilfn],.func⟩:=by kernel_rfl
theorem td258:td Tryz.prog 258=⟨true,1,8,true,[.int .u64 0],.int .u64⟩:=by kernel_rfl
theorem td263:td Tryz.prog 263=⟨true,1,8,true,[.nilfn],.func⟩:=by kernel_rfl
theorem td264:td Tryz.prog 264=⟨true,32,32,true,List.replicate 32 (.int .u8 0),.array 32 5⟩:=by kernel_rfl
theorem td267:td Tryz.prog 267=⟨true,1,8,true,[.int .u64 0],.int .u64⟩:=by kernel_rfl
theorem td269:td Tryz.prog 269=⟨true,1,8,true,[.nilfn],.func⟩:=by kernel_rfl
theorem td271:td Tryz.prog 271=⟨true,1,8,true,[.nilp],.ptr 3⟩:=by kernel_rfl
theorem td272:td Tryz.prog 272=⟨true,1,8,true,[.nilfn],.func⟩:=by kernel_rfl
theorem td273:td Tryz.prog 273=⟨true,1,8,true,[.nilp],.ptr 139⟩:=by kernel_rfl
theorem td274:td Tryz.prog 274=⟨true,1,8,true,[.nilfn],.func⟩:=by kernel_rfl
theorem td275:td Tryz.prog 275=⟨true,1,8,true,[.nilfn],.func⟩:=by kernel_rfl
theorem td277:td Tryz.prog 277=⟨true,1,8,true,[.nilp],.ptr 267⟩:=by kernel_rfl
theorem td279:td Tryz.prog 279=⟨true,1,8,true,[.nilfn],.func⟩:=by kernel_rfl
theorem td281:td Tryz.prog 281=⟨true,1,8,true,[.nilfn],.func⟩:=by kernel_rfl
theorem td282:td Tryz.prog 282=⟨true,1,8,true,[.nilp],.ptr 21⟩:=by kernel_rfl
theorem td283:td Tryz.prog 283=⟨true,1,8,true,[.nilfn],.func⟩:=by kernel_rfl
theorem td286:td Tryz.prog 286=⟨true,1,8,true,[.nilfn],.func⟩:=by kernel_rfl
theorem td289:td Tryz.prog 289=⟨true,1,8,true,[.nilfn],.func⟩:=by kernel_rfl
theorem td291:td Tryz.prog 291=⟨true,1,8,true,[.nilfn],.func⟩:=by kernel_rfl
theorem td292:td Tryz.prog 292=⟨true,1,8,true,[.nilfn],.func⟩:=by kernel_rfl
theorem td293:td Tryz.prog 293=⟨true,4,40,true,[.nilp, .nilp, .nilp, .str ⟨#[]⟩],.struct [(0, 17), (1, 17), (2, 17), (3, 9)]⟩:=by kernel_rfl
theorem td294:td Tryz.prog 294=⟨true,4,40,true,[.nilp, .nilp, .nilp, .str ⟨#[]⟩],.struct [(0, 17), (1, 17), (2, 17), (3, 9)]⟩:=by kernel_rfl
theorem td295:td Tryz.prog 295=⟨true,0,0,true,[],.array 0 16⟩:=by kernel_rfl
theorem td297:td Tryz.prog 297=⟨true,0,0,true,[],.struct [(0, 295)]⟩:=by kernel_rfl
theorem td298:td Tryz.prog 298=⟨true,1,1,true,[.int .u8 0],.int .u8⟩:=by kernel_rfl
theorem td299:td Tryz.prog 299=⟨true,1,1,true,[.int .u8 0],.int .u8⟩:=by kernel_rfl
theorem td300:td Tryz.prog 300=⟨true,1,8,true,[.nilfn],.func⟩:=by kernel_rfl
theorem td301:td Tryz.prog 301=⟨true,1,8,true,[.nilp],.ptr 5⟩:=by kernel_rfl
theorem td302:td Tryz.prog 302=⟨true,1,4,true,[.int .i32 0],.int .i32⟩:=by kernel_rfl
theorem td303:td Tryz.prog 303=⟨true,1,4,true,[.int .i32 0],.int .i32⟩:=by kernel_rfl
theorem td305:td Tryz.prog 305=⟨true,11,48,true,[.int .u64 0, .int .u64 0, .int .u32 0, .int .u8 0, .int .u8 0, .int .u8 0, .int .u8 0, .nilfn, .nilp, .int .i32 0, .int .i32 0],.struct [(0, 12), (1, 12), (2, 37), (3, 298), (4, 5), (5, 5), (6, 299), (7, 300), (8, 301), (9, 302), (10, 303)]⟩:=by kernel_rfl
theorem td306:td Tryz.prog 306=⟨true,1,8,true,[.nilfn],.func⟩:=by kernel_rfl
theorem eqp78 : eqPlain Tryz.prog 78 = true := by kernel_rfl
theorem eqp79 : eqPlain Tryz.prog 79 = true := by kernel_rfl
theorem eqp81 : eqPlain Tryz.prog 81 = true := by kernel_rfl
theorem eqp110 : eqPlain Tryz.prog 110 = true := by kernel_rfl
theorem eqp132 : eqPlain Tryz.prog 132 = true := by kernel_rfl
theorem eqp152 : eqPlain Tryz.prog 152 = true := by kernel_rfl
theorem eqp182 : eqPlain Tryz.prog 182 = true := by kernel_rfl
theorem eqp264 : eqPlain Tryz.prog 264 = true := by kernel_rfl
theorem mixed : Tryz.prog.follows .mixedOrders = true := by kernel_rfl
theorem wD {id : Nat} {l : List Oper} {f : FR} {σ : St} {Q : MQ} (hchk : (chk l.toArray && l.all fun o => plainOp o.op) = true) (h : R (mopsC Tryz.prog (fun _ _ => none) (@OfNat.ofNat (Array Oper) (nat_lit 0) (@_root_.id (OfNat (Array Oper) (nat_lit 0)) (OfNat.mk (l.toArray)))) (Q .normal) (@OfNat.ofNat (List Oper) (nat_lit 0) (@_root_.id (OfNat (List Oper) (nat_lit 0)) (OfNat.mk l))) f σ)) : R (mdraw Tryz.prog id (@OfNat.ofNat (List Oper) (nat_lit 0) (@_root_.id (OfNat (List Oper) (nat_lit 0)) (OfNat.mk l))) f σ Q) := mdraw_plain mixed hchk h
attribute [go_sem] td1 td2 td3 td4 td5 td6 td7 td8 td9 td10 td11 td12 td13 td14 td15 td16 td17 td18 td19 td20 td21 td22 td23 td24 td25 td26 td27 td28 td29 td30 td31 td32 td33 td34 td35 td36 td37 td38 td39 td40 td41 td42 td43 td44 td45 td46 td47 td48 td49 td50 td51 td52 td54 td55 td57 td59 td60 td61 td62 td63 td64 td65 td66 td67 td68 td69 td70 td71 td72 td73 td74 td75 td76 td77 td78 td79 td80 td81 td82 td83 td84 td85 td86 td87 td88 td89 td90 td91 td92 td93 td94 td95 td96 td97 td98 td99 td100 td101 td102 td103 td104 td105 td107 td108 td109 td110 td111 td112 td113 td115 td116 td117 td118 td119 td120 td121 td122 td123 td124 td125 td126 td127 td128 td129 td130 td131 td132 td133 td134 td135 td136 td137 td138 td139 td140 td141 td142 td143 td144 td145 td146 td147 td148 td149 td150 td151 td152 td153 td154 td155 td156 td157 td158 td159 td160 td161 td162 td163 td164 td165 td166 td167 td168 td169 td170 td171 td172 td173 td174 td175 td176 td179 td180 td181 td183 td184 td185 td186 td187 td188 td189 td190 td191 td192 td193 td194 td195 td196 td197 td200 td202 td203 td204 td205 td208 td209 td210 td212 td213 td216 td217 td218 td219 td220 td221 td224 td228 td229 td233 td237 td238 td243 td244 td245 td246 td248 td249 td250 td253 td256 td258 td263 td264 td267 td269 td271 td272 td273 td274 td275 td277 td279 td281 td282 td283 td286 td289 td291 td292 td293 td294 td295 td297 td298 td299 td300 td301 td302 td303 td305 td306 eqp78 eqp79 eqp81 eqp110 eqp132 eqp152 eqp182 eqp264
end Go.Proofs.YtjljgahfkcdhfaaGreatDoor
