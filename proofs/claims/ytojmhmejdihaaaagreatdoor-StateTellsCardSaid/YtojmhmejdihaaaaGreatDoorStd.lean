/- Parts of the proof, joined; conditions: those that its theorems name. -/
import Derived.Test.YtojmhmejdihaaaaGreatDoorStb
import Derived.Test.YtojmhmejdihaaaaGreatDoorRows
import Derived.KernelRfl
set_option linter.unusedVariables false
set_option linter.unusedSimpArgs false
set_option maxHeartbeats 4000000
namespace Go.Proofs.YtojmhmejdihaaaaGreatDoor
theorem td3:td Tryz.prog 3=⟨true,1,8,true,[.int .i64 0],.int .i64⟩:=by kernel_rfl
theorem td4:td Tryz.prog 4=⟨true,1,1,true,[.bool false],.bool⟩:=by kernel_rfl
theorem td5:td Tryz.prog 5=⟨true,1,1,true,[.int .u8 0],.int .u8⟩:=by kernel_rfl
theorem td9:td Tryz.prog 9=⟨true,1,16,true,[.str ⟨#[]⟩],.str⟩:=by kernel_rfl
theorem Pc:td Tryz.prog 22=⟨true,1,24,true,[.aT],.slice 52⟩:=by kernel_rfl
theorem Pd:td Tryz.prog 23=⟨true,1,24,true,[.aT],.slice 166⟩:=by kernel_rfl
theorem Pe:td Tryz.prog 24=⟨true,1,24,true,[.aT],.slice 170⟩:=by kernel_rfl
theorem NV:td Tryz.prog 26=⟨true,5,88,true,[.int .i64 0,.int .i64 0,.aT,.aT,.aT],.struct [(0,3),(1,3),(2,22),(3,23),(4,24)]⟩:=by kernel_rfl
theorem Pf:td Tryz.prog 27=⟨true,1,24,true,[.aT],.slice 139⟩:=by kernel_rfl
theorem Pg:td Tryz.prog 28=⟨true,1,24,true,[.aT],.slice 143⟩:=by kernel_rfl
theorem NW:td Tryz.prog 30=⟨true,7,136,true,[.int .i64 0,.int .i64 0,.aT,.aT,.aT,.aT,.aT],.struct [(0,26),(5,27),(6,28)]⟩:=by kernel_rfl
theorem QZ:td Tryz.prog 32=⟨true,1,8,true,[.nilfn],.func⟩:=by kernel_rfl
theorem NX:td Tryz.prog 38=⟨true,1,24,true,[.aT],.slice 160⟩:=by kernel_rfl
theorem FK:td Tryz.prog 39=⟨true,1,4,true,[.int .u32 0],.int .u32⟩:=by kernel_rfl
theorem Q0:td Tryz.prog 43=⟨true,1,8,true,[.nilp],.ptr 168⟩:=by kernel_rfl
theorem Q1:td Tryz.prog 46=⟨true,1,8,true,[.nilp],.ptr 187⟩:=by kernel_rfl
theorem wY:td Tryz.prog 49=⟨true,3,32,true,[.int .i64 0,.int .i64 0,.str ⟨#[]⟩],.struct [(0,3),(1,3),(2,9)]⟩:=by kernel_rfl
theorem Js:td Tryz.prog 50=⟨true,24,256,true,[.int .i64 0,.int .i64 0,.str ⟨#[]⟩,.int .i64 0,.int .i64 0,.str ⟨#[]⟩,.int .i64 0,.int .i64 0,.str ⟨#[]⟩,.int .i64 0,.int .i64 0,.str ⟨#[]⟩,.int .i64 0,.int .i64 0,.str ⟨#[]⟩,.int .i64 0,.int .i64 0,.str ⟨#[]⟩,.int .i64 0,.int .i64 0,.str ⟨#[]⟩,.int .i64 0,.int .i64 0,.str ⟨#[]⟩],.array 8 49⟩:=by kernel_rfl
theorem FL:td Tryz.prog 52=⟨true,27,280,true,[.int .i64 0,.int .i64 0,.int .u32 0,.int .i64 0,.int .i64 0,.str ⟨#[]⟩,.int .i64 0,.int .i64 0,.str ⟨#[]⟩,.int .i64 0,.int .i64 0,.str ⟨#[]⟩,.int .i64 0,.int .i64 0,.str ⟨#[]⟩,.int .i64 0,.int .i64 0,.str ⟨#[]⟩,.int .i64 0,.int .i64 0,.str ⟨#[]⟩,.int .i64 0,.int .i64 0,.str ⟨#[]⟩,.int .i64 0,.int .i64 0,.str ⟨#[]⟩],.struct [(0,3),(1,3),(2,39),(3,50)]⟩:=by kernel_rfl
theorem NY:td Tryz.prog 56=⟨true,1,24,true,[.aT],.slice 3⟩:=by kernel_rfl
theorem Q2:td Tryz.prog 69=⟨true,1,24,true,[.aT],.slice 38⟩:=by kernel_rfl
theorem Ph:td Tryz.prog 70=⟨true,1,8,true,[.int .i64 0],.int .i64⟩:=by kernel_rfl
theorem Q3:td Tryz.prog 90=⟨true,3,56,true,[.int .i64 0,.aT,.aT],.struct [(0,3),(1,22),(2,23)]⟩:=by kernel_rfl
theorem Q4:td Tryz.prog 92=⟨true,5,88,true,[.int .i64 0,.int .i64 0,.aT,.aT,.aT],.struct [(0,3),(1,90),(4,24)]⟩:=by kernel_rfl
theorem Q5:td Tryz.prog 95=⟨true,1,8,true,[.nilp],.ptr 216⟩:=by kernel_rfl
theorem Ma:td Tryz.prog 117=⟨true,1,24,true,[.aT],.slice 212⟩:=by kernel_rfl
theorem GO:td Tryz.prog 139=⟨true,7,104,true,[.int .i64 0,.int .i64 0,.aT,.int .u32 0,.int .i64 0,.aT,.aT],.struct [(0,3),(1,3),(2,38),(3,39),(4,3),(5,56),(6,117)]⟩:=by kernel_rfl
theorem GP:td Tryz.prog 141=⟨true,10,96,true,[.int .i64 0,.int .i64 0,.int .i64 0,.int .i64 0,.int .i64 0,.int .i64 0,.int .i64 0,.int .i64 0,.aT,.int .u32 0],.struct [(0,3),(1,3),(2,3),(3,70),(4,3),(5,3),(6,3),(7,3),(8,38),(9,39)]⟩:=by kernel_rfl
theorem GQ:td Tryz.prog 143=⟨true,12,112,true,[.int .i64 0,.int .i64 0,.int .i64 0,.int .i64 0,.int .i64 0,.int .i64 0,.int .i64 0,.int .i64 0,.int .i64 0,.int .i64 0,.aT,.int .u32 0],.struct [(0,3),(1,3),(2,141)]⟩:=by kernel_rfl
theorem Qe:td Tryz.prog 148=⟨true,1,8,true,[.nilp],.ptr 262⟩:=by kernel_rfl
theorem Qf:td Tryz.prog 151=⟨true,1,24,true,[.aT],.slice 32⟩:=by kernel_rfl
theorem GS:td Tryz.prog 160=⟨true,5,48,true,[.int .i64 0,.int .i64 0,.int .i64 0,.int .i64 0,.str ⟨#[]⟩],.struct [(0,3),(1,3),(2,49)]⟩:=by kernel_rfl
theorem Qg:td Tryz.prog 161=⟨true,1,8,true,[.nilp],.ptr 273⟩:=by kernel_rfl
theorem Dv:td Tryz.prog 166=⟨true,3,24,true,[.int .i64 0,.int .i64 0,.int .i64 0],.struct [(0,3),(1,3),(2,3)]⟩:=by kernel_rfl
theorem Qh:td Tryz.prog 168=⟨true,3,40,true,[.int .i64 0,.nilp,.aT],.struct [(0,3),(1,161),(2,24)]⟩:=by kernel_rfl
theorem GU:td Tryz.prog 170=⟨true,2,32,true,[.int .i64 0,.aT],.struct [(0,3),(1,56)]⟩:=by kernel_rfl
theorem Qi:td Tryz.prog 177=⟨true,1,4,true,[.int .u32 0],.struct [(0,175),(0,39)]⟩:=by kernel_rfl
theorem Qj:td Tryz.prog 181=⟨true,2,8,true,[.int .i32 0,.int .u32 0],.struct [(0,174),(0,179)]⟩:=by kernel_rfl
theorem Qk:td Tryz.prog 183=⟨true,3,12,true,[.int .u32 0,.int .i32 0,.int .u32 0],.struct [(0,174),(0,177),(1,181)]⟩:=by kernel_rfl
theorem Ql:td Tryz.prog 185=⟨true,1,8,true,[.nilfn],.func⟩:=by kernel_rfl
theorem Qn:td Tryz.prog 187=⟨true,5,48,true,[.aT,.int .u32 0,.int .i32 0,.int .u32 0,.nilfn],.struct [(0,38),(1,183),(4,185)]⟩:=by kernel_rfl
theorem Dw:td Tryz.prog 212=⟨true,31,312,true,[.int .i64 0,.int .i64 0,.int .i64 0,.int .i64 0,.int .i64 0,.int .i64 0,.int .u32 0,.int .i64 0,.int .i64 0,.str ⟨#[]⟩,.int .i64 0,.int .i64 0,.str ⟨#[]⟩,.int .i64 0,.int .i64 0,.str ⟨#[]⟩,.int .i64 0,.int .i64 0,.str ⟨#[]⟩,.int .i64 0,.int .i64 0,.str ⟨#[]⟩,.int .i64 0,.int .i64 0,.str ⟨#[]⟩,.int .i64 0,.int .i64 0,.str ⟨#[]⟩,.int .i64 0,.int .i64 0,.str ⟨#[]⟩],.struct [(0,3),(1,3),(2,3),(3,3),(4,52)]⟩:=by kernel_rfl
theorem Ol:td Tryz.prog 214=⟨true,1,8,true,[.nilm],.map 3 3⟩:=by kernel_rfl
theorem Qo:td Tryz.prog 216=⟨true,6,64,true,[.nilp,.int .u32 0,.nilm,.int .i64 0,.int .i64 0,.aT],.struct [(0,46),(1,39),(2,214),(3,3),(4,3),(5,117)]⟩:=by kernel_rfl
theorem Qp:td Tryz.prog 249=⟨true,2,16,true,[.int .i64 0,.nilp],.struct [(0,3),(1,95)]⟩:=by kernel_rfl
theorem Qq:td Tryz.prog 250=⟨true,1,8,true,[.nilm],.map 3 249⟩:=by kernel_rfl
theorem Qr:td Tryz.prog 252=⟨true,1,8,true,[.nilm],.struct [(0,250)]⟩:=by kernel_rfl
theorem Qs:td Tryz.prog 257=⟨true,1,8,true,[.int .i64 0],.struct [(0,175),(0,255),(0,2)]⟩:=by kernel_rfl
theorem Qt:td Tryz.prog 259=⟨true,12,112,true,[.int .i64 0,.int .i64 0,.int .i64 0,.int .i64 0,.int .i64 0,.int .i64 0,.int .i64 0,.int .i64 0,.int .i64 0,.int .i64 0,.aT,.int .u32 0],.struct [(0,3),(1,257),(2,141)]⟩:=by kernel_rfl
theorem Qu:td Tryz.prog 260=⟨true,72,672,true,[.int .i64 0,.int .i64 0,.int .i64 0,.int .i64 0,.int .i64 0,.int .i64 0,.int .i64 0,.int .i64 0,.int .i64 0,.int .i64 0,.aT,.int .u32 0,.int .i64 0,.int .i64 0,.int .i64 0,.int .i64 0,.int .i64 0,.int .i64 0,.int .i64 0,.int .i64 0,.int .i64 0,.int .i64 0,.aT,.int .u32 0,.int .i64 0,.int .i64 0,.int .i64 0,.int .i64 0,.int .i64 0,.int .i64 0,.int .i64 0,.int .i64 0,.int .i64 0,.int .i64 0,.aT,.int .u32 0,.int .i64 0,.int .i64 0,.int .i64 0,.int .i64 0,.int .i64 0,.int .i64 0,.int .i64 0,.int .i64 0,.int .i64 0,.int .i64 0,.aT,.int .u32 0,.int .i64 0,.int .i64 0,.int .i64 0,.int .i64 0,.int .i64 0,.int .i64 0,.int .i64 0,.int .i64 0,.int .i64 0,.int .i64 0,.aT,.int .u32 0,.int .i64 0,.int .i64 0,.int .i64 0,.int .i64 0,.int .i64 0,.int .i64 0,.int .i64 0,.int .i64 0,.int .i64 0,.int .i64 0,.aT,.int .u32 0],.array 6 259⟩:=by kernel_rfl
theorem Qv:td Tryz.prog 262=⟨true,72,672,true,[.int .i64 0,.int .i64 0,.int .i64 0,.int .i64 0,.int .i64 0,.int .i64 0,.int .i64 0,.int .i64 0,.int .i64 0,.int .i64 0,.aT,.int .u32 0,.int .i64 0,.int .i64 0,.int .i64 0,.int .i64 0,.int .i64 0,.int .i64 0,.int .i64 0,.int .i64 0,.int .i64 0,.int .i64 0,.aT,.int .u32 0,.int .i64 0,.int .i64 0,.int .i64 0,.int .i64 0,.int .i64 0,.int .i64 0,.int .i64 0,.int .i64 0,.int .i64 0,.int .i64 0,.aT,.int .u32 0,.int .i64 0,.int .i64 0,.int .i64 0,.int .i64 0,.int .i64 0,.int .i64 0,.int .i64 0,.int .i64 0,.int .i64 0,.int .i64 0,.aT,.int .u32 0,.int .i64 0,.int .i64 0,.int .i64 0,.int .i64 0,.int .i64 0,.int .i64 0,.int .i64 0,.int .i64 0,.int .i64 0,.int .i64 0,.aT,.int .u32 0,.int .i64 0,.int .i64 0,.int .i64 0,.int .i64 0,.int .i64 0,.int .i64 0,.int .i64 0,.int .i64 0,.int .i64 0,.int .i64 0,.aT,.int .u32 0],.struct [(0,260)]⟩:=by kernel_rfl
theorem Qw:td Tryz.prog 271=⟨true,1,8,true,[.nilm],.map 3 52⟩:=by kernel_rfl
theorem Qy:td Tryz.prog 273=⟨true,3,40,true,[.int .i64 0,.nilm,.aT],.struct [(0,3),(1,271),(2,23)]⟩:=by kernel_rfl
theorem Qz:td Tryz.prog 277=⟨true,3,3,true,[.bool false,.bool false,.bool false],.struct [(0,4),(1,4),(2,4)]⟩:=by kernel_rfl
theorem QA:td Tryz.prog 325=⟨true,1,8,true,[.int .u64 0],.int .u64⟩:=by kernel_rfl
theorem QB:td Tryz.prog 327=⟨true,1,24,true,[.aT],.slice 49⟩:=by kernel_rfl
theorem QC:td Tryz.prog 385=⟨true,1,24,true,[.aT],.slice 5⟩:=by kernel_rfl
theorem Om:td Tryz.prog 386=⟨true,32,32,true,List.replicate 32 (.int .u8 0),.array 32 5⟩:=by kernel_rfl
theorem PR:cZ Tryz.prog 49=true:=by kernel_rfl
theorem OC:cZ Tryz.prog 160=true:=by kernel_rfl
theorem mixed:Tryz.prog.follows .mixedOrders=true:=by kernel_rfl
theorem wD{id:Nat}{l:List Oper}{f:FR}{σ:St}{Q:MQ}(hchk:(chk l.toArray&&l.all fun o=>lW o.op)=true)(h:R (mU Tryz.prog (fun _ _=>none) (@OfNat.ofNat (Array Oper) (nat_lit 0) (@_root_.id (OfNat (Array Oper) (nat_lit 0)) (OfNat.mk (l.toArray)))) (Q .normal) (@OfNat.ofNat (List Oper) (nat_lit 0) (@_root_.id (OfNat (List Oper) (nat_lit 0)) (OfNat.mk l))) f σ)):R (sN Tryz.prog id (@OfNat.ofNat (List Oper) (nat_lit 0) (@_root_.id (OfNat (List Oper) (nat_lit 0)) (OfNat.mk l))) f σ Q):=Cn mixed hchk h
attribute [go_sem] td3 td4 td5 td9 Pc Pd Pe NV Pf Pg NW QZ NX FK Q0 Q1 wY Js FL NY Q2 Ph Q3 Q4 Q5 Ma GO GP GQ Qe Qf GS Qg Dv Qh GU Qi Qj Qk Ql Qn Dw Ol Qo Qp Qq Qr Qs Qt Qu Qv Qw Qy Qz QA QB QC Om PR OC
end Go.Proofs.YtojmhmejdihaaaaGreatDoor
