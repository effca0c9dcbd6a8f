/- Parts of the proof, joined; conditions: those that its theorems name. -/
import Derived.Test.YtaojijkdamfbnaaGreatDoorMec
import Derived.Test.YtaojijkdamfbnaaGreatDoorMee
import Derived.Test.YtaojijkdamfbnaaGreatDoorRows
import Derived.KernelRfl
set_option linter.unusedVariables false
set_option linter.unusedSimpArgs false
set_option maxHeartbeats 4000000
namespace Go.Proofs.YtaojijkdamfbnaaGreatDoor
section
theorem td3:td Tryz.prog 3=⟨true,1,8,true,[.int .i64 0],.int .i64⟩:=by kernel_rfl
theorem td4:td Tryz.prog 4=⟨true,1,1,true,[.bool false],.bool⟩:=by kernel_rfl
theorem td5:td Tryz.prog 5=⟨true,1,1,true,[.int .u8 0],.int .u8⟩:=by kernel_rfl
theorem td9:td Tryz.prog 9=⟨true,1,16,true,[.str ⟨#[]⟩],.str⟩:=by kernel_rfl
theorem Mn:td Tryz.prog 22=⟨true,1,24,true,[.bC],.slice 42⟩:=by kernel_rfl
theorem NB:td Tryz.prog 23=⟨true,1,24,true,[.bC],.slice 90⟩:=by kernel_rfl
theorem NC:td Tryz.prog 24=⟨true,1,24,true,[.bC],.slice 94⟩:=by kernel_rfl
theorem Mo:td Tryz.prog 26=⟨true,5,88,true,[.int .i64 0,.int .i64 0,.bC,.bC,.bC],.struct [(0,3),(1,3),(2,22),(3,23),(4,24)]⟩:=by kernel_rfl
theorem NF:td Tryz.prog 27=⟨true,1,24,true,[.bC],.slice 84⟩:=by kernel_rfl
theorem EJ:td Tryz.prog 28=⟨true,1,4,true,[.int .u32 0],.int .u32⟩:=by kernel_rfl
theorem Mp:td Tryz.prog 30=⟨true,8,128,true,[.int .i64 0,.int .i64 0,.bC,.bC,.bC,.bC,.int .u32 0,.int .i64 0],.struct [(0,26),(5,27),(6,28),(7,3)]⟩:=by kernel_rfl
theorem O3:td Tryz.prog 33=⟨true,1,8,true,[.nilp],.ptr 92⟩:=by kernel_rfl
theorem O4:td Tryz.prog 36=⟨true,1,8,true,[.nilp],.ptr 111⟩:=by kernel_rfl
theorem vF:td Tryz.prog 39=⟨true,3,32,true,[.int .i64 0,.int .i64 0,.str ⟨#[]⟩],.struct [(0,3),(1,3),(2,9)]⟩:=by kernel_rfl
theorem EK:td Tryz.prog 40=⟨true,24,256,true,[.int .i64 0,.int .i64 0,.str ⟨#[]⟩,.int .i64 0,.int .i64 0,.str ⟨#[]⟩,.int .i64 0,.int .i64 0,.str ⟨#[]⟩,.int .i64 0,.int .i64 0,.str ⟨#[]⟩,.int .i64 0,.int .i64 0,.str ⟨#[]⟩,.int .i64 0,.int .i64 0,.str ⟨#[]⟩,.int .i64 0,.int .i64 0,.str ⟨#[]⟩,.int .i64 0,.int .i64 0,.str ⟨#[]⟩],.array 8 39⟩:=by kernel_rfl
theorem KE:td Tryz.prog 42=⟨true,27,280,true,[.int .i64 0,.int .i64 0,.int .u32 0,.int .i64 0,.int .i64 0,.str ⟨#[]⟩,.int .i64 0,.int .i64 0,.str ⟨#[]⟩,.int .i64 0,.int .i64 0,.str ⟨#[]⟩,.int .i64 0,.int .i64 0,.str ⟨#[]⟩,.int .i64 0,.int .i64 0,.str ⟨#[]⟩,.int .i64 0,.int .i64 0,.str ⟨#[]⟩,.int .i64 0,.int .i64 0,.str ⟨#[]⟩,.int .i64 0,.int .i64 0,.str ⟨#[]⟩],.struct [(0,3),(1,3),(2,28),(3,40)]⟩:=by kernel_rfl
theorem NG:td Tryz.prog 46=⟨true,1,24,true,[.bC],.slice 3⟩:=by kernel_rfl
theorem O5:td Tryz.prog 60=⟨true,1,24,true,[.bC],.slice 27⟩:=by kernel_rfl
theorem OI:td Tryz.prog 77=⟨true,26,264,true,[.int .u32 0,.int .u32 0,.int .i64 0,.int .i64 0,.str ⟨#[]⟩,.int .i64 0,.int .i64 0,.str ⟨#[]⟩,.int .i64 0,.int .i64 0,.str ⟨#[]⟩,.int .i64 0,.int .i64 0,.str ⟨#[]⟩,.int .i64 0,.int .i64 0,.str ⟨#[]⟩,.int .i64 0,.int .i64 0,.str ⟨#[]⟩,.int .i64 0,.int .i64 0,.str ⟨#[]⟩,.int .i64 0,.int .i64 0,.str ⟨#[]⟩],.struct [(0,28),(1,28),(2,40)]⟩:=by kernel_rfl
theorem O6:td Tryz.prog 78=⟨true,1,24,true,[.bC],.slice 194⟩:=by kernel_rfl
theorem O7:td Tryz.prog 82=⟨true,29,288,true,[.int .i64 0,.int .i64 0,.int .i64 0,.int .u32 0,.int .u32 0,.int .i64 0,.int .i64 0,.str ⟨#[]⟩,.int .i64 0,.int .i64 0,.str ⟨#[]⟩,.int .i64 0,.int .i64 0,.str ⟨#[]⟩,.int .i64 0,.int .i64 0,.str ⟨#[]⟩,.int .i64 0,.int .i64 0,.str ⟨#[]⟩,.int .i64 0,.int .i64 0,.str ⟨#[]⟩,.int .i64 0,.int .i64 0,.str ⟨#[]⟩,.int .i64 0,.int .i64 0,.str ⟨#[]⟩],.struct [(0,3),(1,3),(2,3),(3,77)]⟩:=by kernel_rfl
theorem Mq:td Tryz.prog 84=⟨true,5,48,true,[.int .i64 0,.int .i64 0,.int .i64 0,.int .i64 0,.str ⟨#[]⟩],.struct [(0,3),(1,3),(2,39)]⟩:=by kernel_rfl
theorem O8:td Tryz.prog 85=⟨true,1,8,true,[.nilp],.ptr 145⟩:=by kernel_rfl
theorem Mr:td Tryz.prog 90=⟨true,3,24,true,[.int .i64 0,.int .i64 0,.int .i64 0],.struct [(0,3),(1,3),(2,3)]⟩:=by kernel_rfl
theorem O9:td Tryz.prog 92=⟨true,3,40,true,[.int .i64 0,.nilp,.bC],.struct [(0,3),(1,85),(2,24)]⟩:=by kernel_rfl
theorem Ms:td Tryz.prog 94=⟨true,2,32,true,[.int .i64 0,.bC],.struct [(0,3),(1,46)]⟩:=by kernel_rfl
theorem Ot:td Tryz.prog 101=⟨true,1,4,true,[.int .u32 0],.struct [(0,99),(0,28)]⟩:=by kernel_rfl
theorem Ou:td Tryz.prog 105=⟨true,2,8,true,[.int .i32 0,.int .u32 0],.struct [(0,98),(0,103)]⟩:=by kernel_rfl
theorem Ov:td Tryz.prog 107=⟨true,3,12,true,[.int .u32 0,.int .i32 0,.int .u32 0],.struct [(0,98),(0,101),(1,105)]⟩:=by kernel_rfl
theorem Ow:td Tryz.prog 109=⟨true,1,8,true,[.nilfn],.func⟩:=by kernel_rfl
theorem Ox:td Tryz.prog 111=⟨true,5,48,true,[.bC,.int .u32 0,.int .i32 0,.int .u32 0,.nilfn],.struct [(0,27),(1,107),(4,109)]⟩:=by kernel_rfl
theorem Oy:td Tryz.prog 135=⟨true,3,56,true,[.int .i64 0,.bC,.bC],.struct [(0,3),(1,22),(2,23)]⟩:=by kernel_rfl
theorem Oz:td Tryz.prog 137=⟨true,5,88,true,[.int .i64 0,.int .i64 0,.bC,.bC,.bC],.struct [(0,3),(1,135),(4,24)]⟩:=by kernel_rfl
theorem OA:td Tryz.prog 141=⟨true,1,8,true,[.nilfn],.func⟩:=by kernel_rfl
theorem OB:td Tryz.prog 142=⟨true,7,56,true,[.nilfn,.nilfn,.nilfn,.nilfn,.nilfn,.nilfn,.nilfn],.array 7 141⟩:=by kernel_rfl
theorem MR:td Tryz.prog 143=⟨true,1,8,true,[.nilm],.map 3 42⟩:=by kernel_rfl
theorem OC:td Tryz.prog 145=⟨true,3,40,true,[.int .i64 0,.nilm,.bC],.struct [(0,3),(1,143),(2,23)]⟩:=by kernel_rfl
theorem OD:td Tryz.prog 149=⟨true,3,3,true,[.bool false,.bool false,.bool false],.struct [(0,4),(1,4),(2,4)]⟩:=by kernel_rfl
theorem OE:td Tryz.prog 177=⟨true,1,8,true,[.int .u64 0],.int .u64⟩:=by kernel_rfl
theorem OF:td Tryz.prog 179=⟨true,1,24,true,[.bC],.slice 39⟩:=by kernel_rfl
theorem OG:td Tryz.prog 194=⟨true,2,16,true,[.int .i64 0,.int .i64 0],.struct [(0,3),(1,3)]⟩:=by kernel_rfl
theorem OH:td Tryz.prog 228=⟨true,1,24,true,[.bC],.slice 5⟩:=by kernel_rfl
theorem MT:td Tryz.prog 230=⟨true,32,32,true,List.replicate 32 (.int .u8 0),.array 32 5⟩:=by kernel_rfl
theorem N6:dM Tryz.prog 39=true:=by kernel_rfl
theorem mixed:Tryz.prog.follows .mixedOrders=true:=by kernel_rfl
theorem wD{id:Nat}{l:List Oper}{f:FR}{σ:St}{Q:MQ}(hchk:(chk l.toArray&&l.all fun o=>lG o.op)=true)(h:R (mH Tryz.prog (fun _ _=>none) (@OfNat.ofNat (Array Oper) (nat_lit 0) (@_root_.id (OfNat (Array Oper) (nat_lit 0)) (OfNat.mk (l.toArray)))) (Q .normal) (@OfNat.ofNat (List Oper) (nat_lit 0) (@_root_.id (OfNat (List Oper) (nat_lit 0)) (OfNat.mk l))) f σ)):R (rH Tryz.prog id (@OfNat.ofNat (List Oper) (nat_lit 0) (@_root_.id (OfNat (List Oper) (nat_lit 0)) (OfNat.mk l))) f σ Q):=BD mixed hchk h
attribute [go_sem] td3 td4 td5 td9 Mn NB NC Mo NF EJ Mp O3 O4 vF EK KE NG O5 OI O6 O7 Mq O8 Mr O9 Ms Ot Ou Ov Ow Ox Oy Oz OA OB MR OC OD OE OF OG OH MT N6
end

section
theorem mQ(op:Int):aA Tryz.prog 103 [.int .i64 op] St.none (fun r _=>r=.int .i64 (parts op)):=by
 refine(aA.body 11 [.tmp 2] Tryz.func103 rfl rfl rfl rfl ?_)
 repeat' (first|(with_reducible first|(refine wN fun nl hnl=>?_;revert hnl;(repeat refine wS fun _ _=>?_);intro hnl)|refine wD (by decide +kernel) ?_|refine wI (fun h=>?_) fun h=>?_|refine wF (fun h=>?_) fun h=>?_|refine wG (fun h=>?_) fun h=>?_|refine wH (fun h=>?_) fun h=>?_|((first|refine aF (fun h=>?_) fun h=>?_|refine aD (fun h=>?_) fun h=>?_)<;>simp only[h]))|simp(maxSteps:=4000000) (disch:=first|decide|assumption|omega|(simp only[wL];omega)) only[go_sem,simprocAttr,Tryz.f103])
 all_goals simp[parts, *]
theorem pT(kd n:Int)(s:ByteArray):aA Tryz.prog 102 [.agg [.int .i64 kd,.int .i64 n,.str s]] St.none (fun r _=>r=.bool (dY ⟨kd,n,s⟩)):=by
 refine(aA.body 41 [.tmp 2] Tryz.func102 rfl rfl rfl rfl ?_)
 repeat' (first|(with_reducible first|(refine wN fun nl hnl=>?_;revert hnl;(repeat refine wS fun _ _=>?_);intro hnl)|refine wD (by decide +kernel) ?_|refine wI (fun h=>?_) fun h=>?_|refine wF (fun h=>?_) fun h=>?_|refine wG (fun h=>?_) fun h=>?_|refine wH (fun h=>?_) fun h=>?_|((first|refine aF (fun h=>?_) fun h=>?_|refine aD (fun h=>?_) fun h=>?_)<;>simp only[h]))|simp(maxSteps:=4000000) (disch:=first|decide|assumption|omega|(simp only[wL];omega)) only[go_sem,simprocAttr,Tryz.f102])
 all_goals simp[dY,va0, *]
 all_goals omega
set_option maxHeartbeats 2000000 in
theorem EB (x:ND):aA Tryz.prog 60 [.agg x.c] St.none (fun r _=>r=.bool (eD x)):=by
 refine(aA.body 86 [.tmp 2] Tryz.func60 rfl rfl rfl rfl ?_)
 obtain⟨op,n,kd,vn,s⟩:=x
 repeat' (first|(with_reducible refine aM (pT _ _ _) ?_)|(with_reducible first|(refine wN fun nl hnl=>?_;revert hnl;(repeat refine wS fun _ _=>?_);intro hnl)|refine wD (by decide +kernel) ?_|refine wI (fun h=>?_) fun h=>?_|refine wF (fun h=>?_) fun h=>?_|refine wG (fun h=>?_) fun h=>?_|refine wH (fun h=>?_) fun h=>?_|((first|refine aF (fun h=>?_) fun h=>?_|refine aD (fun h=>?_) fun h=>?_)<;>simp only[h]))|simp(maxSteps:=4000000) (disch:=first|decide|assumption|omega|(simp only[wL];omega)) only[go_sem,simprocAttr,Tryz.f60])
 all_goals first
  | (simp[eD,va0, *];done)
  | (simp[eD,va0, *];omega)
  | (simp[eD,va0, *];rintro rfl rfl rfl;rename_i h;revert h;simp[dY,va0])
theorem xM{l:List ND}{n j:Nat}(h:j<l.length):gN (n+1) (l.drop j)=(gN (n+parts (l.getD j nd0).op) (l.drop (j+1))).map (·+1):=by
 rw[List.drop_eq_getElem_cons h]
 have:l.getD j nd0=l[j]:=by simp[List.getD,h]
 rw[this]
 rfl
theorem nJ(l:List ND)(hl:l.length≤1000000)(t:Bool)(i:Int):aA Tryz.prog 61 [.lst 5 (l.map ND.c) t,.int .i64 i] St.none (fun r _=>r=.int .i64 (fT l i)):=by
 refine(aA.body 30 [.tmp 4] Tryz.func61 rfl rfl rfl rfl ?_)
 by_cases hi:i<0
 ·repeat' (first|(with_reducible first|(refine wN fun nl hnl=>?_;revert hnl;(repeat refine wS fun _ _=>?_);intro hnl)|refine wD (by decide +kernel) ?_|refine wI (fun h=>?_) fun h=>?_|refine wF (fun h=>?_) fun h=>?_|refine wG (fun h=>?_) fun h=>?_|refine wH (fun h=>?_) fun h=>?_|((first|refine aF (fun h=>?_) fun h=>?_|refine aD (fun h=>?_) fun h=>?_)<;>simp only[h]))|simp(maxSteps:=4000000) (disch:=first|decide|assumption|omega|(simp only[wL];omega)) only[go_sem,simprocAttr,Tryz.f61])
  simp[fT,hi]
 ·obtain⟨i,rfl⟩:∃k:Nat,i=k:=⟨i.toNat,by omega⟩
  repeat' (first|(with_reducible first|(refine wN fun nl hnl=>?_;revert hnl;(repeat refine wS fun _ _=>?_);intro hnl)|refine wD (by decide +kernel) ?_|refine wI (fun h=>?_) fun h=>?_|refine wF (fun h=>?_) fun h=>?_|refine wG (fun h=>?_) fun h=>?_|refine wH (fun h=>?_) fun h=>?_|((first|refine aF (fun h=>?_) fun h=>?_|refine aD (fun h=>?_) fun h=>?_)<;>simp only[h]))|simp(maxSteps:=4000000) (disch:=first|decide|assumption|omega|(simp only[wL];omega)) only[go_sem,simprocAttr,Tryz.f61])
  refine aH (α:=Nat × Nat) (fun a=>⟨30,[(5,.int .i64 (a.2:Int)),(0,.lst 5 (l.map ND.c) t),(1,.int .i64 (a.1:Int))],[]⟩) (fun _=>St.none)
   (fun a=>i≤a.1∧a.1≤max i l.length∧a.2≤1+a.1∧gN 1 (l.drop i)=(gN a.2 (l.drop a.1)).map (·+(a.1 - i))) (fun a=>l.length - a.1) (.of (.less ?_ (St.le_refl _)) ⟨(i,1),rfl,rfl,?_⟩) ?_
  ·simp(maxSteps:=4000000) (disch:=first|decide|assumption|omega|(simp only[wL];omega)) only[go_sem,simprocAttr,aC,aB]
   all_goals rfl
  ·simp
   omega
  ·rintro⟨j,n⟩ ⟨h1,h2,h3,h4⟩
   simp only at h1 h2 h3 h4 ⊢
   by_cases hj:j<l.length
   ·rcases Nat.eq_zero_or_pos n with hn|hn
    ·subst hn
     repeat' (first|(with_reducible first|(refine wN fun nl hnl=>?_;revert hnl;(repeat refine wS fun _ _=>?_);intro hnl)|refine wD (by decide +kernel) ?_|refine wI (fun h=>?_) fun h=>?_|refine wF (fun h=>?_) fun h=>?_|refine wG (fun h=>?_) fun h=>?_|refine wH (fun h=>?_) fun h=>?_|((first|refine aF (fun h=>?_) fun h=>?_|refine aD (fun h=>?_) fun h=>?_)<;>simp only[h]))|simp(maxSteps:=4000000) (disch:=first|decide|assumption|omega|(simp only[wL];omega)) only[go_sem,simprocAttr,bG nd0,ND.c])
     simp only[fT,h4,gN,Option.map_some,Int.toNat_natCast]
     rw[if_neg hi]
     simp only[MV.int.injEq,true_and]
     omega
    ·obtain⟨m,rfl⟩:∃m,n=m+1:=⟨n - 1,by omega⟩
     have hp:=iL (l.getD j nd0).op
     repeat' (first|(with_reducible refine aM (mQ _) ?_)|(with_reducible first|(refine wN fun nl hnl=>?_;revert hnl;(repeat refine wS fun _ _=>?_);intro hnl)|refine wD (by decide +kernel) ?_|refine wI (fun h=>?_) fun h=>?_|refine wF (fun h=>?_) fun h=>?_|refine wG (fun h=>?_) fun h=>?_|refine wH (fun h=>?_) fun h=>?_|((first|refine aF (fun h=>?_) fun h=>?_|refine aD (fun h=>?_) fun h=>?_)<;>simp only[h]))|simp(maxSteps:=4000000) (disch:=first|decide|assumption|omega|(simp only[wL];omega)) only[go_sem,simprocAttr,bG nd0,ND.c])
     refine .of (.less (l1:=[(5,.int .i64 ((m+parts (l.getD j nd0).op:Nat):Int)),(0,.lst 5 (l.map ND.c) t),(1,.int .i64 ((j+1:Nat):Int))]) ?_ (St.le_refl _)) ⟨(j+1,m+parts (l.getD j nd0).op),rfl,rfl,⟨by simp only;omega,by simp only;omega,by simp only;omega,?_⟩,by simp only;omega⟩
     ·simp(maxSteps:=4000000) (disch:=first|decide|assumption|omega|(simp only[wL];omega)) only[go_sem,simprocAttr,aC,aB]
      all_goals omega
     ·rw[h4,xM hj]
      simp only[Option.map_map]
      congr 1
      funext k
      simp only[Function.comp]
      omega
   ·have hd:l.drop j=[]:=List.drop_eq_nil_of_le (by omega)
    rw[hd] at h4
    rcases Nat.eq_zero_or_pos n with hn|hn
    ·subst hn
     repeat' (first|(with_reducible first|(refine wN fun nl hnl=>?_;revert hnl;(repeat refine wS fun _ _=>?_);intro hnl)|refine wD (by decide +kernel) ?_|refine wI (fun h=>?_) fun h=>?_|refine wF (fun h=>?_) fun h=>?_|refine wG (fun h=>?_) fun h=>?_|refine wH (fun h=>?_) fun h=>?_|((first|refine aF (fun h=>?_) fun h=>?_|refine aD (fun h=>?_) fun h=>?_)<;>simp only[h]))|simp(maxSteps:=4000000) (disch:=first|decide|assumption|omega|(simp only[wL];omega)) only[go_sem,simprocAttr,bG nd0,ND.c])
     simp only[fT,h4,gN,Option.map_some,Int.toNat_natCast]
     rw[if_neg hi]
     simp only[MV.int.injEq,true_and]
     omega
    ·obtain⟨m,rfl⟩:∃m,n=m+1:=⟨n - 1,by omega⟩
     repeat' (first|(with_reducible first|(refine wN fun nl hnl=>?_;revert hnl;(repeat refine wS fun _ _=>?_);intro hnl)|refine wD (by decide +kernel) ?_|refine wI (fun h=>?_) fun h=>?_|refine wF (fun h=>?_) fun h=>?_|refine wG (fun h=>?_) fun h=>?_|refine wH (fun h=>?_) fun h=>?_|((first|refine aF (fun h=>?_) fun h=>?_|refine aD (fun h=>?_) fun h=>?_)<;>simp only[h]))|simp(maxSteps:=4000000) (disch:=first|decide|assumption|omega|(simp only[wL];omega)) only[go_sem,simprocAttr,bG nd0,ND.c])
     simp only[fT,h4,gN,Option.map_none,Int.toNat_natCast]
     rw[if_neg hi]
end

section
theorem mO(a b:Int):aA Tryz.prog 199 [.int .i64 a,.int .i64 b] St.none (fun r _=>r=.int .i64 (lD (cmpL [a] [b]))):=by
 refine(aA.body 11 [.tmp 4] Tryz.func199 rfl rfl rfl rfl ?_)
 repeat' (first|(with_reducible first|(refine wN fun nl hnl=>?_;revert hnl;(repeat refine wS fun _ _=>?_);intro hnl)|refine wD (by decide +kernel) ?_|refine wI (fun h=>?_) fun h=>?_|refine wF (fun h=>?_) fun h=>?_|refine wG (fun h=>?_) fun h=>?_|refine wH (fun h=>?_) fun h=>?_|((first|refine aF (fun h=>?_) fun h=>?_|refine aD (fun h=>?_) fun h=>?_)<;>simp only[h]))|simp(maxSteps:=4000000) (disch:=first|exact ddL|fail) only[go_sem,simprocAttr,Tryz.f199])
 all_goals simp[cmpL,lD, *]
theorem u4(a b:VA)(ha:a.s.size≤1000000)(hb:b.s.size≤1000000):aA Tryz.prog 176 [.agg a.c,.agg b.c] St.none (fun r _=>r=.int .i64 (lD (cmpL a.key b.key))):=by
 refine(aA.body 67 [.tmp 4] Tryz.func176 rfl rfl rfl rfl ?_)
 repeat' (first|(with_reducible refine aM (mO _ _) ?_)|(with_reducible first|(refine wN fun nl hnl=>?_;revert hnl;(repeat refine wS fun _ _=>?_);intro hnl)|refine wD (by decide +kernel) ?_|refine wI (fun h=>?_) fun h=>?_|refine wF (fun h=>?_) fun h=>?_|refine wG (fun h=>?_) fun h=>?_|refine wH (fun h=>?_) fun h=>?_|((first|refine aF (fun h=>?_) fun h=>?_|refine aD (fun h=>?_) fun h=>?_)<;>simp only[h]))|simp(maxSteps:=4000000) (disch:=first|exact ddL|fail) only[go_sem,simprocAttr,Tryz.f176])
 ·rw[show cmpL a.key b.key=cmpL [a.kd] [b.kd] from pC h]
 ·have h1:=Classical.not_not.1 ‹¬¬a.kd=b.kd›
  have:cmpL a.key b.key=cmpL [a.n] [b.n]:=by
   rw[VA.key,VA.key,h1,jE,pC h]
  rw[this]
 ·have h1:=Classical.not_not.1 ‹¬¬a.kd=b.kd›
  have h2:=Classical.not_not.1 ‹¬¬a.n=b.n›
  have hk:cmpL a.key b.key=cmpL (bk a.s) (bk b.s):=by
   rw[VA.key,VA.key,h1,jE,h2,jE];rfl
  rw[hk]
  rename_i pa hpa _ _ _
  refine aH (α:=Nat) (fun i=>⟨67,[(5,.int .i64 (i:Int)),(3,.ptr nl 0 0),(2,.ptr pa 0 0)],[]⟩) (fun _=>(St.none.set pa (.row 39 3 [a.c])).set nl (.row 39 3 [b.c]))
   (fun i=>i≤a.s.size∧i≤b.s.size∧cmpL (bk a.s) (bk b.s)=cmpL ((bk a.s).drop i) ((bk b.s).drop i)) (fun i=>a.s.size - i) (.of (.less ?_ (St.le_refl _)) ⟨0,rfl,rfl,by simp⟩) ?_
  ·simp(maxSteps:=4000000) (disch:=first|exact ddL|fail) only[go_sem,simprocAttr,aC,aB]
   all_goals rfl
  ·rintro i ⟨h3,h4,h5⟩
   by_cases hi:i<a.s.size∧i<b.s.size
   ·obtain⟨hi1,hi2⟩:=hi
    rw[r9 hi1,r9 hi2] at h5
    have hc1:((a.s.toList.getD i 0).toNat:Int)≤255:=by have:=(a.s.toList.getD i 0).toNat_lt;omega
    have hc2:((b.s.toList.getD i 0).toNat:Int)≤255:=by have:=(b.s.toList.getD i 0).toNat_lt;omega
    have hc3:0≤((a.s.toList.getD i 0).toNat:Int):=by omega
    have hc4:0≤((b.s.toList.getD i 0).toNat:Int):=by omega
    obtain⟨ca,hca⟩:∃c:Int,((a.s.toList.getD i 0).toNat:Int)=c:=⟨_,rfl⟩
    obtain⟨cb,hcb⟩:∃c:Int,((b.s.toList.getD i 0).toNat:Int)=c:=⟨_,rfl⟩
    rw[hca] at h5 hc1 hc3
    rw[hcb] at h5 hc2 hc4
    by_cases hcc:ca=cb
    ·rw[hcc,jE] at h5
     repeat' (first|(with_reducible first|(refine wN fun nl hnl=>?_;revert hnl;(repeat refine wS fun _ _=>?_);intro hnl)|refine wD (by decide +kernel) ?_|refine wI (fun h=>?_) fun h=>?_|refine wF (fun h=>?_) fun h=>?_|refine wG (fun h=>?_) fun h=>?_|refine wH (fun h=>?_) fun h=>?_|((first|refine aF (fun h=>?_) fun h=>?_|refine aD (fun h=>?_) fun h=>?_)<;>simp only[h]))|simp(maxSteps:=4000000) (disch:=first|exact ddL|fail) only[go_sem,simprocAttr,hca,hcb])
     refine .of (.less (l1:=[(5,.int .i64 ((i+1:Nat):Int)),(3,.ptr nl 0 0),(2,.ptr pa 0 0)]) ?_ (St.le_refl _)) ⟨i+1,rfl,rfl,⟨by omega,by omega,h5⟩,by omega⟩
     simp(maxSteps:=4000000) (disch:=first|exact ddL|fail) only[go_sem,simprocAttr,aC,aB]
     all_goals omega
    ·repeat' (first|(with_reducible refine aT mixed (by decide +kernel) (fun g ms=>if g=199 then some ⟨[],fun v=>v=.int .i64 (lD (cmpL [ca] [cb])),none⟩ else none) ?_)|(with_reducible refine aP rfl (mO _ _) ?_)|(with_reducible first|(refine wN fun nl hnl=>?_;revert hnl;(repeat refine wS fun _ _=>?_);intro hnl)|refine wD (by decide +kernel) ?_|refine wI (fun h=>?_) fun h=>?_|refine wF (fun h=>?_) fun h=>?_|refine wG (fun h=>?_) fun h=>?_|refine wH (fun h=>?_) fun h=>?_|((first|refine aF (fun h=>?_) fun h=>?_|refine aD (fun h=>?_) fun h=>?_)<;>simp only[h]))|simp(maxSteps:=4000000) (disch:=first|exact ddL|fail) only[go_sem,simprocAttr,hca,hcb])
     rw[h5,pC (x:=(bk a.s).drop (i+1)) (y:=(bk b.s).drop (i+1)) hcc]
   ·have key:cmpL (bk a.s) (bk b.s)=cmpL [(a.s.size:Int)] [(b.s.size:Int)]:=by
     rw[h5]
     by_cases h6:i<a.s.size
     ·have h7:i=b.s.size:=by omega
      rw[r9 h6,lX (s:=b.s) (n:=i) (by omega)]
      simp only[cmpL]
      rw[if_neg (by omega),if_pos (by omega)]
     ·have h7:i=a.s.size:=by omega
      rw[lX (s:=a.s) (n:=i) (by omega)]
      by_cases h8:i<b.s.size
      ·rw[r9 h8]
       simp only[cmpL]
       rw[if_pos (by omega)]
      ·rw[lX (s:=b.s) (n:=i) (by omega)]
       simp only[cmpL]
       rw[if_neg (by omega),if_neg (by omega)]
    repeat' (first|(with_reducible refine aM (mO _ _) ?_)|(with_reducible first|(refine wN fun nl hnl=>?_;revert hnl;(repeat refine wS fun _ _=>?_);intro hnl)|refine wD (by decide +kernel) ?_|refine wI (fun h=>?_) fun h=>?_|refine wF (fun h=>?_) fun h=>?_|refine wG (fun h=>?_) fun h=>?_|refine wH (fun h=>?_) fun h=>?_|((first|refine aF (fun h=>?_) fun h=>?_|refine aD (fun h=>?_) fun h=>?_)<;>simp only[h]))|simp(maxSteps:=4000000) (disch:=first|exact ddL|fail) only[go_sem,simprocAttr])
    all_goals rw[key]
end

section
theorem fP(op:Int):aA Tryz.prog 125 [.int .i64 op] St.none (fun r _=>r=.int .i64 (parts op)):=by
 refine(aA.body 9 [.tmp 2] Tryz.func125 rfl rfl rfl rfl ?_)
 repeat' (first|(with_reducible first|(refine wN fun nl hnl=>?_;revert hnl;(repeat refine wS fun _ _=>?_);intro hnl)|refine wD (by decide +kernel) ?_|refine wI (fun h=>?_) fun h=>?_|refine wF (fun h=>?_) fun h=>?_|refine wG (fun h=>?_) fun h=>?_|refine wH (fun h=>?_) fun h=>?_|((first|refine aF (fun h=>?_) fun h=>?_|refine aD (fun h=>?_) fun h=>?_)<;>simp only[h]))|simp(maxSteps:=4000000) (disch:=first|decide|assumption|omega|(simp only[wL];omega)) only[go_sem,simprocAttr,Tryz.f125])
 all_goals simp[parts, *]
theorem mY(kd n:Int)(s:ByteArray):aA Tryz.prog 121 [.agg [.int .i64 kd,.int .i64 n,.str s]] St.none (fun r _=>r=.bool (dY ⟨kd,n,s⟩)):=by
 refine(aA.body 36 [.tmp 2] Tryz.func121 rfl rfl rfl rfl ?_)
 repeat' (first|(with_reducible first|(refine wN fun nl hnl=>?_;revert hnl;(repeat refine wS fun _ _=>?_);intro hnl)|refine wD (by decide +kernel) ?_|refine wI (fun h=>?_) fun h=>?_|refine wF (fun h=>?_) fun h=>?_|refine wG (fun h=>?_) fun h=>?_|refine wH (fun h=>?_) fun h=>?_|((first|refine aF (fun h=>?_) fun h=>?_|refine aD (fun h=>?_) fun h=>?_)<;>simp only[h]))|simp(maxSteps:=4000000) (disch:=first|decide|assumption|omega|(simp only[wL];omega)) only[go_sem,simprocAttr,Tryz.f121])
 all_goals first
  | (simp[dY,va0, *];done)
  | (simp[dY,va0, *];omega)
theorem j7(a:Int):aA Tryz.prog 183 [.int .i64 a] St.none (fun r _=>r=.bool false):=by
 refine(aA.body 6 [.tmp 2] Tryz.func183 rfl rfl rfl rfl ?_)
 repeat' (first|(with_reducible first|(refine wN fun nl hnl=>?_;revert hnl;(repeat refine wS fun _ _=>?_);intro hnl)|refine wD (by decide +kernel) ?_|refine wI (fun h=>?_) fun h=>?_|refine wF (fun h=>?_) fun h=>?_|refine wG (fun h=>?_) fun h=>?_|refine wH (fun h=>?_) fun h=>?_|((first|refine aF (fun h=>?_) fun h=>?_|refine aD (fun h=>?_) fun h=>?_)<;>simp only[h]))|simp(maxSteps:=4000000) (disch:=first|decide|assumption|omega|(simp only[wL];omega)) only[go_sem,simprocAttr,Tryz.f183,kX])
theorem B4(a:ByteArray):aA Tryz.prog 227 [.str a] St.none (fun r _=>r=.bool false):=by
 refine(aA.body 6 [.tmp 2] Tryz.func227 rfl rfl rfl rfl ?_)
 repeat' (first|(with_reducible first|(refine wN fun nl hnl=>?_;revert hnl;(repeat refine wS fun _ _=>?_);intro hnl)|refine wD (by decide +kernel) ?_|refine wI (fun h=>?_) fun h=>?_|refine wF (fun h=>?_) fun h=>?_|refine wG (fun h=>?_) fun h=>?_|refine wH (fun h=>?_) fun h=>?_|((first|refine aF (fun h=>?_) fun h=>?_|refine aD (fun h=>?_) fun h=>?_)<;>simp only[h]))|simp(maxSteps:=4000000) (disch:=first|decide|assumption|omega|(simp only[wL];omega)) only[go_sem,simprocAttr,Tryz.f227,kX])
theorem lZ(a b:Int):aA Tryz.prog 188 [.int .i64 a,.int .i64 b] St.none (fun r _=>r=.int .i64 (lD (cmpL [a] [b]))):=by
 refine(aA.body 20 [.tmp 4] Tryz.func188 rfl rfl rfl rfl ?_)
 repeat' (first|(with_reducible refine aM (j7 _) ?_)|(with_reducible first|(refine wN fun nl hnl=>?_;revert hnl;(repeat refine wS fun _ _=>?_);intro hnl)|refine wD (by decide +kernel) ?_|refine wI (fun h=>?_) fun h=>?_|refine wF (fun h=>?_) fun h=>?_|refine wG (fun h=>?_) fun h=>?_|refine wH (fun h=>?_) fun h=>?_|((first|refine aF (fun h=>?_) fun h=>?_|refine aD (fun h=>?_) fun h=>?_)<;>simp only[h]))|simp(maxSteps:=4000000) (disch:=first|decide|assumption|omega|(simp only[wL];omega)) only[go_sem,simprocAttr,Tryz.f188])
 all_goals simp[cmpL,lD, *]
theorem l3(a b:ByteArray):aA Tryz.prog 214 [.str a,.str b] St.none (fun r _=>r=.int .i64 (lD (cmpL (bk a) (bk b)))):=by
 refine(aA.body 20 [.tmp 4] Tryz.func214 rfl rfl rfl rfl ?_)
 have hb:=nT a.toList b.toList
 change _=decide (cmpL (bk a) (bk b)=.lt) at hb
 repeat' (first|(with_reducible refine aM (B4 _) ?_)|(with_reducible first|(refine wN fun nl hnl=>?_;revert hnl;(repeat refine wS fun _ _=>?_);intro hnl)|refine wD (by decide +kernel) ?_|refine wI (fun h=>?_) fun h=>?_|refine wF (fun h=>?_) fun h=>?_|refine wG (fun h=>?_) fun h=>?_|refine wH (fun h=>?_) fun h=>?_|((first|refine aF (fun h=>?_) fun h=>?_|refine aD (fun h=>?_) fun h=>?_)<;>simp only[h]))|simp(maxSteps:=4000000) (disch:=first|decide|assumption|omega|(simp only[wL];omega)) only[go_sem,simprocAttr,Tryz.f214])
 ·rw[hb] at h
  simp only[decide_eq_true_eq] at h
  rw[h];rfl
 ·rename_i h0
  rw[hb] at h0
  simp only[decide_eq_false_iff_not] at h0
  simp only[Bool.not_eq_true',Bool.or_eq_false_iff,decide_eq_false_iff_not] at h
  have h1:cmpL (bk a) (bk b)≠.eq:=fun e=>h.2 (bytes_inj (cmpL_eq.1 e))
  cases e:cmpL (bk a) (bk b)
  ·exact absurd e h0
  ·exact absurd e h1
  ·rfl
 ·rename_i h0
  simp only[h0,Bool.false_or,Bool.not_eq_false',decide_eq_true_eq] at h
  rw[h,qB];rfl
theorem K8{l:List ND}{i:Int}(h:¬(i<0∨(l.length:Int)≤i)):fT l i=match gN 1 (l.drop i.toNat) with
  | none=>-1
  | some k=>i+k:=by
 unfold fT
 rw[if_neg (by omega)]
 cases gN 1 (l.drop i.toNat)<;>rfl
theorem yJ(l:List ND)(hl:l.length≤1000000)(t:Bool)(i:Int):aA Tryz.prog 83 [.lst 5 (l.map ND.c) t,.int .i64 i] St.none (fun r _=>r=.int .i64 (fT l i)):=by
 refine(aA.body 38 [.tmp 4] Tryz.func83 rfl rfl rfl rfl ?_)
 by_cases hi:i<0∨(l.length:Int)≤i
 ·have he:fT l i = -1:=by
   unfold fT
   by_cases h0:i<0
   ·rw[if_pos h0]
   ·rw[if_neg h0,List.drop_eq_nil_of_le (by omega)];rfl
  rw[he]
  repeat' (first|(with_reducible first|(refine wN fun nl hnl=>?_;revert hnl;(repeat refine wS fun _ _=>?_);intro hnl)|refine wD (by decide +kernel) ?_|refine wI (fun h=>?_) fun h=>?_|refine wF (fun h=>?_) fun h=>?_|refine wG (fun h=>?_) fun h=>?_|refine wH (fun h=>?_) fun h=>?_|((first|refine aF (fun h=>?_) fun h=>?_|refine aD (fun h=>?_) fun h=>?_)<;>simp only[h]))|simp(maxSteps:=4000000) (disch:=first|decide|assumption|omega|(simp only[wL];omega)) only[go_sem,simprocAttr,Tryz.f83])
 ·obtain⟨m,hm⟩:∃m,l.drop i.toNat=m:=⟨_,rfl⟩
  have hml:l.length - i.toNat=m.length:=by rw[←hm];simp
  have hm0:m.length≤1000000:=by omega
  have hb:i+m.length≤1000000:=by omega
  have h0:0≤i:=by omega
  rw[K8 hi,hm]
  repeat' (first|(with_reducible first|(refine wN fun nl hnl=>?_;revert hnl;(repeat refine wS fun _ _=>?_);intro hnl)|refine wD (by decide +kernel) ?_|refine wI (fun h=>?_) fun h=>?_|refine wF (fun h=>?_) fun h=>?_|refine wG (fun h=>?_) fun h=>?_|refine wH (fun h=>?_) fun h=>?_|((first|refine aF (fun h=>?_) fun h=>?_|refine aD (fun h=>?_) fun h=>?_)<;>simp only[h]))|simp(maxSteps:=4000000) (disch:=first|decide|assumption|omega|(simp only[wL];omega)) only[go_sem,simprocAttr,Tryz.f83,hm,hml])
  refine aH (α:=Nat × Nat) (fun a=>⟨38,[(20,.int .i64 (a.1:Int)),(19,.int .i64 (m.length:Int)),(18,.lst 5 (m.map ND.c) t),(5,.int .i64 (a.2:Int)),(1,.int .i64 i)],[]⟩) (fun _=>St.none)
   (fun a=>a.1≤m.length∧1≤a.2∧a.2≤1+a.1∧gN 1 m=(gN a.2 (m.drop a.1)).map (·+a.1)) (fun a=>m.length - a.1) (.of (.less ?_ (St.le_refl _)) ⟨(0,1),rfl,rfl,by simp⟩) ?_
  ·simp(maxSteps:=4000000) (disch:=first|decide|assumption|omega|(simp only[wL];omega)) only[go_sem,simprocAttr,aC,aB]
   all_goals omega
  ·rintro⟨k,n⟩ ⟨h1,h2,h3,h4⟩
   simp only at h1 h2 h3 h4 ⊢
   obtain⟨q,rfl⟩:∃q,n=q+1:=⟨n - 1,by omega⟩
   by_cases hk:k<m.length
   ·have hp:=iL (m.getD k nd0).op
    rw[xM hk] at h4
    obtain⟨pp,hpp⟩:∃pp:Nat,parts (m.getD k nd0).op=pp:=⟨_,rfl⟩
    rw[hpp] at h4 hp
    by_cases hz:q+pp=0
    ·rw[hz] at h4
     have hq:q=0:=by omega
     have hpz:pp=0:=by omega
     subst hq
     rw[hpz] at hpp
     repeat' (first|(with_reducible refine aM (fP _) ?_)|(with_reducible first|(refine wN fun nl hnl=>?_;revert hnl;(repeat refine wS fun _ _=>?_);intro hnl)|refine wD (by decide +kernel) ?_|refine wI (fun h=>?_) fun h=>?_|refine wF (fun h=>?_) fun h=>?_|refine wG (fun h=>?_) fun h=>?_|refine wH (fun h=>?_) fun h=>?_|((first|refine aF (fun h=>?_) fun h=>?_|refine aD (fun h=>?_) fun h=>?_)<;>simp only[h]))|simp(maxSteps:=4000000) (disch:=first|decide|assumption|omega|(simp only[wL];omega)) only[go_sem,simprocAttr,bG nd0,hpp])
     rw[h4]
     simp only[gN,Option.map_some,MV.int.injEq,true_and]
     have e1:((0+1+k:Nat):Int)=(k:Int)+1:=by omega
     rw[e1,Int.add_assoc]
    ·repeat' (first|(with_reducible refine aM (fP _) ?_)|(with_reducible first|(refine wN fun nl hnl=>?_;revert hnl;(repeat refine wS fun _ _=>?_);intro hnl)|refine wD (by decide +kernel) ?_|refine wI (fun h=>?_) fun h=>?_|refine wF (fun h=>?_) fun h=>?_|refine wG (fun h=>?_) fun h=>?_|refine wH (fun h=>?_) fun h=>?_|((first|refine aF (fun h=>?_) fun h=>?_|refine aD (fun h=>?_) fun h=>?_)<;>simp only[h]))|simp(maxSteps:=4000000) (disch:=first|decide|assumption|omega|(simp only[wL];omega)) only[go_sem,simprocAttr,bG nd0,hpp])
     refine .of (.less (l1:=[(20,.int .i64 ((k+1:Nat):Int)),(19,.int .i64 (m.length:Int)),(18,.lst 5 (m.map ND.c) t),(5,.int .i64 ((q+pp:Nat):Int)),(1,.int .i64 i)]) ?_ (St.none_le _)) ⟨(k+1,q+pp),rfl,rfl,⟨by simp only;omega,by simp only;omega,by simp only;omega,?_⟩,by simp only;omega⟩
     ·simp(maxSteps:=4000000) (disch:=first|decide|assumption|omega|(simp only[wL];omega)) only[go_sem,simprocAttr,aC,aB]
      all_goals omega
     ·rw[h4]
      simp only[Option.map_map]
      congr 1
      funext k
      simp only[Function.comp]
      omega
   ·rw[List.drop_eq_nil_of_le (by omega)] at h4
    rw[h4]
    repeat' (first|(with_reducible first|(refine wN fun nl hnl=>?_;revert hnl;(repeat refine wS fun _ _=>?_);intro hnl)|refine wD (by decide +kernel) ?_|refine wI (fun h=>?_) fun h=>?_|refine wF (fun h=>?_) fun h=>?_|refine wG (fun h=>?_) fun h=>?_|refine wH (fun h=>?_) fun h=>?_|((first|refine aF (fun h=>?_) fun h=>?_|refine aD (fun h=>?_) fun h=>?_)<;>simp only[h]))|simp(maxSteps:=4000000) (disch:=first|decide|assumption|omega|(simp only[wL];omega)) only[go_sem,simprocAttr,bG nd0])
    rfl
theorem Dy(p:ND→Bool)(g:FuncId)(l:List ND)(hl:l.length≤1000000)(t:Bool)(hg:∀x,x∈l→aA Tryz.prog g [.agg x.c] St.none (fun r _=>r=.bool (p x))) :
  aA Tryz.prog 126 [.lst 5 (l.map ND.c) t,.fn (.func g) [] []] St.none (fun r _=>r=.int .i64 (if l.any p then(l.findIdx p:Int) else -1)):=by
 refine(aA.body 19 [.tmp 4] Tryz.func126 rfl rfl rfl rfl ?_)
 repeat' (first|(with_reducible first|(refine wN fun nl hnl=>?_;revert hnl;(repeat refine wS fun _ _=>?_);intro hnl)|refine wD (by decide +kernel) ?_|refine wI (fun h=>?_) fun h=>?_|refine wF (fun h=>?_) fun h=>?_|refine wG (fun h=>?_) fun h=>?_|refine wH (fun h=>?_) fun h=>?_|((first|refine aF (fun h=>?_) fun h=>?_|refine aD (fun h=>?_) fun h=>?_)<;>simp only[h]))|simp(maxSteps:=4000000) (disch:=first|decide|assumption|omega|(simp only[wL];omega)) only[go_sem,simprocAttr,Tryz.f126])
 refine aH (α:=Nat) (fun k=>⟨19,[(8,.int .i64 (k:Int)),(7,.int .i64 (l.length:Int)),(6,.lst 5 (l.map ND.c) t),(0,.lst 5 (l.map ND.c) t),(1,.fn (.func g) [] [])],[]⟩) (fun _=>St.none)
  (fun k=>k≤l.length∧(l.take k).any p=false) (fun k=>l.length - k) (.of (.less ?_ (St.le_refl _)) ⟨0,rfl,rfl,by simp⟩) ?_
 ·simp(maxSteps:=4000000) (disch:=first|decide|assumption|omega|(simp only[wL];omega)) only[go_sem,simprocAttr,aC,aB]
  all_goals rfl
 ·rintro k ⟨h1,h2⟩
  by_cases hk:k<l.length
  ·have hgk:=hg _ (eO nd0 hk)
   cases hp:p (l.getD k nd0)
   ·rw[hp] at hgk
    repeat' (first|(with_reducible refine aM hgk ?_)|(with_reducible first|(refine wN fun nl hnl=>?_;revert hnl;(repeat refine wS fun _ _=>?_);intro hnl)|refine wD (by decide +kernel) ?_|refine wI (fun h=>?_) fun h=>?_|refine wF (fun h=>?_) fun h=>?_|refine wG (fun h=>?_) fun h=>?_|refine wH (fun h=>?_) fun h=>?_|((first|refine aF (fun h=>?_) fun h=>?_|refine aD (fun h=>?_) fun h=>?_)<;>simp only[h]))|simp(maxSteps:=4000000) (disch:=first|decide|assumption|omega|(simp only[wL];omega)) only[go_sem,simprocAttr,bG nd0])
    refine .of (.less (l1:=[(8,.int .i64 ((k+1:Nat):Int)),(7,.int .i64 (l.length:Int)),(6,.lst 5 (l.map ND.c) t),(0,.lst 5 (l.map ND.c) t),(1,.fn (.func g) [] [])]) ?_ (St.le_refl _)) ⟨k+1,rfl,rfl,⟨by omega,?_⟩,by omega⟩
    ·simp(maxSteps:=4000000) (disch:=first|decide|assumption|omega|(simp only[wL];omega)) only[go_sem,simprocAttr,aC,aB]
     all_goals omega
    ·rw[nS hk,h2,←bM nd0 hk,hp];rfl
   ·rw[hp] at hgk
    have hany:l.any p=true:=List.any_eq_true.2 ⟨_,eO nd0 hk,hp⟩
    have hf:l.findIdx p=k:=by
     rw[List.findIdx_eq hk]
     refine⟨by rw[←bM nd0 hk];exact hp,fun j hj=>?_⟩
     have:=List.any_eq_false.1 h2 l[j] (by rw[List.mem_take_iff_getElem];exact⟨j,by omega,rfl⟩)
     simpa using this
    rw[hany,hf]
    repeat' (first|(with_reducible refine aM hgk ?_)|(with_reducible first|(refine wN fun nl hnl=>?_;revert hnl;(repeat refine wS fun _ _=>?_);intro hnl)|refine wD (by decide +kernel) ?_|refine wI (fun h=>?_) fun h=>?_|refine wF (fun h=>?_) fun h=>?_|refine wG (fun h=>?_) fun h=>?_|refine wH (fun h=>?_) fun h=>?_|((first|refine aF (fun h=>?_) fun h=>?_|refine aD (fun h=>?_) fun h=>?_)<;>simp only[h]))|simp(maxSteps:=4000000) (disch:=first|decide|assumption|omega|(simp only[wL];omega)) only[go_sem,simprocAttr,bG nd0])
  ·have:k=l.length:=by omega
   subst this
   rw[List.take_length] at h2
   rw[h2]
   repeat' (first|(with_reducible first|(refine wN fun nl hnl=>?_;revert hnl;(repeat refine wS fun _ _=>?_);intro hnl)|refine wD (by decide +kernel) ?_|refine wI (fun h=>?_) fun h=>?_|refine wF (fun h=>?_) fun h=>?_|refine wG (fun h=>?_) fun h=>?_|refine wH (fun h=>?_) fun h=>?_|((first|refine aF (fun h=>?_) fun h=>?_|refine aD (fun h=>?_) fun h=>?_)<;>simp only[h]))|simp(maxSteps:=4000000) (disch:=first|decide|assumption|omega|(simp only[wL];omega)) only[go_sem,simprocAttr,bG nd0])
theorem vU(p:ND→Bool)(g:FuncId)(l:List ND)(hl:l.length≤1000000)(t:Bool)(hg:∀x,x∈l→aA Tryz.prog g [.agg x.c] St.none (fun r _=>r=.bool (p x))) :
  aA Tryz.prog 84 [.lst 5 (l.map ND.c) t,.fn (.func g) [] []] St.none (fun r _=>r=.bool (l.any p)):=by
 refine(aA.body 9 [.tmp 4] Tryz.func84 rfl rfl rfl rfl ?_)
 have hi:=Dy p g l hl t hg
 cases hany:l.any p
 ·rw[hany] at hi
  simp only[Bool.false_eq_true,if_false] at hi
  repeat' (first|(with_reducible refine aM hi ?_)|(with_reducible first|(refine wN fun nl hnl=>?_;revert hnl;(repeat refine wS fun _ _=>?_);intro hnl)|refine wD (by decide +kernel) ?_|refine wI (fun h=>?_) fun h=>?_|refine wF (fun h=>?_) fun h=>?_|refine wG (fun h=>?_) fun h=>?_|refine wH (fun h=>?_) fun h=>?_|((first|refine aF (fun h=>?_) fun h=>?_|refine aD (fun h=>?_) fun h=>?_)<;>simp only[h]))|simp(maxSteps:=4000000) (disch:=first|decide|assumption|omega|(simp only[wL];omega)) only[go_sem,simprocAttr,Tryz.f84])
 ·rw[hany] at hi
  simp only[if_true] at hi
  repeat' (first|(with_reducible refine aM hi ?_)|(with_reducible first|(refine wN fun nl hnl=>?_;revert hnl;(repeat refine wS fun _ _=>?_);intro hnl)|refine wD (by decide +kernel) ?_|refine wI (fun h=>?_) fun h=>?_|refine wF (fun h=>?_) fun h=>?_|refine wG (fun h=>?_) fun h=>?_|refine wH (fun h=>?_) fun h=>?_|((first|refine aF (fun h=>?_) fun h=>?_|refine aD (fun h=>?_) fun h=>?_)<;>simp only[h]))|simp(maxSteps:=4000000) (disch:=first|decide|assumption|omega|(simp only[wL];omega)) only[go_sem,simprocAttr,Tryz.f84])
  simp
theorem xE(a b:VA):aA Tryz.prog 196 [.agg a.c,.agg b.c] St.none (fun r _=>r=.int .i64 (lD (cmpL a.key b.key))):=by
 refine(aA.body 28 [.tmp 4] Tryz.func196 rfl rfl rfl rfl ?_)
 by_cases h1:a.kd=b.kd
 ·have e1:cmpL a.key b.key=cmpL (a.n::bk a.s) (b.n::bk b.s):=by rw[VA.key,VA.key,h1,jE];rfl
  have c1:lD (cmpL [a.kd] [b.kd])=0:=by rw[h1,qB];rfl
  by_cases h2:a.n=b.n
  ·have e2:cmpL a.key b.key=cmpL (bk a.s) (bk b.s):=by rw[e1,h2,jE]
   have c2:lD (cmpL [a.n] [b.n])=0:=by rw[h2,qB];rfl
   rw[e2]
   repeat' (first|(with_reducible refine aM (lZ _ _) ?_)|(with_reducible refine aM (l3 _ _) ?_)|(with_reducible first|(refine wN fun nl hnl=>?_;revert hnl;(repeat refine wS fun _ _=>?_);intro hnl)|refine wD (by decide +kernel) ?_|refine wI (fun h=>?_) fun h=>?_|refine wF (fun h=>?_) fun h=>?_|refine wG (fun h=>?_) fun h=>?_|refine wH (fun h=>?_) fun h=>?_|((first|refine aF (fun h=>?_) fun h=>?_|refine aD (fun h=>?_) fun h=>?_)<;>simp only[h]))|simp(maxSteps:=4000000) (disch:=first|decide|assumption|omega|(simp only[wL];omega)) only[go_sem,simprocAttr,Tryz.f196,c1,c2])
  ·have e2:cmpL a.key b.key=cmpL [a.n] [b.n]:=by rw[e1,pC h2]
   have c2:lD (cmpL [a.n] [b.n])≠0:=fun h=>h2 (by have:=cmpL_eq.1 (yD.1 h);simpa using this)
   rw[e2]
   repeat' (first|(with_reducible refine aM (lZ _ _) ?_)|(with_reducible refine aM (l3 _ _) ?_)|(with_reducible first|(refine wN fun nl hnl=>?_;revert hnl;(repeat refine wS fun _ _=>?_);intro hnl)|refine wD (by decide +kernel) ?_|refine wI (fun h=>?_) fun h=>?_|refine wF (fun h=>?_) fun h=>?_|refine wG (fun h=>?_) fun h=>?_|refine wH (fun h=>?_) fun h=>?_|((first|refine aF (fun h=>?_) fun h=>?_|refine aD (fun h=>?_) fun h=>?_)<;>simp only[h]))|simp(maxSteps:=4000000) (disch:=first|decide|assumption|omega|(simp only[wL];omega)) only[go_sem,simprocAttr,Tryz.f196,c1])
 ·have e1:cmpL a.key b.key=cmpL [a.kd] [b.kd]:=by rw[VA.key,VA.key,pC h1]
  have c1:lD (cmpL [a.kd] [b.kd])≠0:=fun h=>h1 (by have:=cmpL_eq.1 (yD.1 h);simpa using this)
  rw[e1]
  repeat' (first|(with_reducible refine aM (lZ _ _) ?_)|(with_reducible refine aM (l3 _ _) ?_)|(with_reducible first|(refine wN fun nl hnl=>?_;revert hnl;(repeat refine wS fun _ _=>?_);intro hnl)|refine wD (by decide +kernel) ?_|refine wI (fun h=>?_) fun h=>?_|refine wF (fun h=>?_) fun h=>?_|refine wG (fun h=>?_) fun h=>?_|refine wH (fun h=>?_) fun h=>?_|((first|refine aF (fun h=>?_) fun h=>?_|refine aD (fun h=>?_) fun h=>?_)<;>simp only[h]))|simp(maxSteps:=4000000) (disch:=first|decide|assumption|omega|(simp only[wL];omega)) only[go_sem,simprocAttr,Tryz.f196])
end
end Go.Proofs.YtaojijkdamfbnaaGreatDoor
