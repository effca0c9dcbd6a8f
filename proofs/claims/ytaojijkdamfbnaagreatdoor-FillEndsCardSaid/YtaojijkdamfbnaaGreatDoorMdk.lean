/- Parts of the proof, joined; conditions: those that its theorems name. -/
import Derived.Test.YtaojijkdamfbnaaGreatDoorMdc
import Derived.Test.YtaojijkdamfbnaaGreatDoorMde
import Derived.Test.YtaojijkdamfbnaaGreatDoorMdf
import Derived.Test.YtaojijkdamfbnaaGreatDoorRows
import Derived.KernelRfl
import Derived.Shelf.SlIterI.Nil
import Derived.Shelf.SortM.Plain
import Derived.Shelf.SortM.SortNone
set_option linter.unusedVariables false
set_option linter.unusedSimpArgs false
set_option maxHeartbeats 4000000
namespace Go.Proofs.YtaojijkdamfbnaaGreatDoor
section
theorem td3:td Tryz.prog 3=⟨true,1,8,true,[.int .i64 0],.int .i64⟩:=by kernel_rfl
theorem td4:td Tryz.prog 4=⟨true,1,1,true,[.bool false],.bool⟩:=by kernel_rfl
theorem td5:td Tryz.prog 5=⟨true,1,1,true,[.int .u8 0],.int .u8⟩:=by kernel_rfl
theorem td9:td Tryz.prog 9=⟨true,1,16,true,[.str ⟨#[]⟩],.str⟩:=by kernel_rfl
theorem ML:td Tryz.prog 22=⟨true,1,24,true,[.bC],.slice 42⟩:=by kernel_rfl
theorem MM:td Tryz.prog 23=⟨true,1,24,true,[.bC],.slice 90⟩:=by kernel_rfl
theorem MN:td Tryz.prog 24=⟨true,1,24,true,[.bC],.slice 94⟩:=by kernel_rfl
theorem LC:td Tryz.prog 26=⟨true,5,88,true,[.int .i64 0,.int .i64 0,.bC,.bC,.bC],.struct [(0,3),(1,3),(2,22),(3,23),(4,24)]⟩:=by kernel_rfl
theorem MO:td Tryz.prog 27=⟨true,1,24,true,[.bC],.slice 84⟩:=by kernel_rfl
theorem Ec:td Tryz.prog 28=⟨true,1,4,true,[.int .u32 0],.int .u32⟩:=by kernel_rfl
theorem LD:td Tryz.prog 30=⟨true,8,128,true,[.int .i64 0,.int .i64 0,.bC,.bC,.bC,.bC,.int .u32 0,.int .i64 0],.struct [(0,26),(5,27),(6,28),(7,3)]⟩:=by kernel_rfl
theorem Of:td Tryz.prog 33=⟨true,1,8,true,[.nilp],.ptr 92⟩:=by kernel_rfl
theorem Og:td Tryz.prog 36=⟨true,1,8,true,[.nilp],.ptr 111⟩:=by kernel_rfl
theorem uN:td Tryz.prog 39=⟨true,3,32,true,[.int .i64 0,.int .i64 0,.str ⟨#[]⟩],.struct [(0,3),(1,3),(2,9)]⟩:=by kernel_rfl
theorem Ed:td Tryz.prog 40=⟨true,24,256,true,[.int .i64 0,.int .i64 0,.str ⟨#[]⟩,.int .i64 0,.int .i64 0,.str ⟨#[]⟩,.int .i64 0,.int .i64 0,.str ⟨#[]⟩,.int .i64 0,.int .i64 0,.str ⟨#[]⟩,.int .i64 0,.int .i64 0,.str ⟨#[]⟩,.int .i64 0,.int .i64 0,.str ⟨#[]⟩,.int .i64 0,.int .i64 0,.str ⟨#[]⟩,.int .i64 0,.int .i64 0,.str ⟨#[]⟩],.array 8 39⟩:=by kernel_rfl
theorem J1:td Tryz.prog 42=⟨true,27,280,true,[.int .i64 0,.int .i64 0,.int .u32 0,.int .i64 0,.int .i64 0,.str ⟨#[]⟩,.int .i64 0,.int .i64 0,.str ⟨#[]⟩,.int .i64 0,.int .i64 0,.str ⟨#[]⟩,.int .i64 0,.int .i64 0,.str ⟨#[]⟩,.int .i64 0,.int .i64 0,.str ⟨#[]⟩,.int .i64 0,.int .i64 0,.str ⟨#[]⟩,.int .i64 0,.int .i64 0,.str ⟨#[]⟩,.int .i64 0,.int .i64 0,.str ⟨#[]⟩],.struct [(0,3),(1,3),(2,28),(3,40)]⟩:=by kernel_rfl
theorem MP:td Tryz.prog 46=⟨true,1,24,true,[.bC],.slice 3⟩:=by kernel_rfl
theorem Oh:td Tryz.prog 60=⟨true,1,24,true,[.bC],.slice 27⟩:=by kernel_rfl
theorem Oi:td Tryz.prog 64=⟨true,1,24,true,[.bC],.slice 132⟩:=by kernel_rfl
theorem NV:td Tryz.prog 77=⟨true,26,264,true,[.int .u32 0,.int .u32 0,.int .i64 0,.int .i64 0,.str ⟨#[]⟩,.int .i64 0,.int .i64 0,.str ⟨#[]⟩,.int .i64 0,.int .i64 0,.str ⟨#[]⟩,.int .i64 0,.int .i64 0,.str ⟨#[]⟩,.int .i64 0,.int .i64 0,.str ⟨#[]⟩,.int .i64 0,.int .i64 0,.str ⟨#[]⟩,.int .i64 0,.int .i64 0,.str ⟨#[]⟩,.int .i64 0,.int .i64 0,.str ⟨#[]⟩],.struct [(0,28),(1,28),(2,40)]⟩:=by kernel_rfl
theorem Oj:td Tryz.prog 78=⟨true,1,24,true,[.bC],.slice 194⟩:=by kernel_rfl
theorem Ol:td Tryz.prog 82=⟨true,29,288,true,[.int .i64 0,.int .i64 0,.int .i64 0,.int .u32 0,.int .u32 0,.int .i64 0,.int .i64 0,.str ⟨#[]⟩,.int .i64 0,.int .i64 0,.str ⟨#[]⟩,.int .i64 0,.int .i64 0,.str ⟨#[]⟩,.int .i64 0,.int .i64 0,.str ⟨#[]⟩,.int .i64 0,.int .i64 0,.str ⟨#[]⟩,.int .i64 0,.int .i64 0,.str ⟨#[]⟩,.int .i64 0,.int .i64 0,.str ⟨#[]⟩,.int .i64 0,.int .i64 0,.str ⟨#[]⟩],.struct [(0,3),(1,3),(2,3),(3,77)]⟩:=by kernel_rfl
theorem LF:td Tryz.prog 84=⟨true,5,48,true,[.int .i64 0,.int .i64 0,.int .i64 0,.int .i64 0,.str ⟨#[]⟩],.struct [(0,3),(1,3),(2,39)]⟩:=by kernel_rfl
theorem Om:td Tryz.prog 85=⟨true,1,8,true,[.nilp],.ptr 145⟩:=by kernel_rfl
theorem LG:td Tryz.prog 90=⟨true,3,24,true,[.int .i64 0,.int .i64 0,.int .i64 0],.struct [(0,3),(1,3),(2,3)]⟩:=by kernel_rfl
theorem On:td Tryz.prog 92=⟨true,3,40,true,[.int .i64 0,.nilp,.bC],.struct [(0,3),(1,85),(2,24)]⟩:=by kernel_rfl
theorem LH:td Tryz.prog 94=⟨true,2,32,true,[.int .i64 0,.bC],.struct [(0,3),(1,46)]⟩:=by kernel_rfl
theorem NF:td Tryz.prog 101=⟨true,1,4,true,[.int .u32 0],.struct [(0,99),(0,28)]⟩:=by kernel_rfl
theorem NG:td Tryz.prog 105=⟨true,2,8,true,[.int .i32 0,.int .u32 0],.struct [(0,98),(0,103)]⟩:=by kernel_rfl
theorem NH:td Tryz.prog 107=⟨true,3,12,true,[.int .u32 0,.int .i32 0,.int .u32 0],.struct [(0,98),(0,101),(1,105)]⟩:=by kernel_rfl
theorem NI:td Tryz.prog 109=⟨true,1,8,true,[.nilfn],.func⟩:=by kernel_rfl
theorem NJ:td Tryz.prog 111=⟨true,5,48,true,[.bC,.int .u32 0,.int .i32 0,.int .u32 0,.nilfn],.struct [(0,27),(1,107),(4,109)]⟩:=by kernel_rfl
theorem NK:td Tryz.prog 132=⟨true,28,288,true,[.int .i64 0,.int .i64 0,.int .i64 0,.int .u32 0,.int .i64 0,.int .i64 0,.str ⟨#[]⟩,.int .i64 0,.int .i64 0,.str ⟨#[]⟩,.int .i64 0,.int .i64 0,.str ⟨#[]⟩,.int .i64 0,.int .i64 0,.str ⟨#[]⟩,.int .i64 0,.int .i64 0,.str ⟨#[]⟩,.int .i64 0,.int .i64 0,.str ⟨#[]⟩,.int .i64 0,.int .i64 0,.str ⟨#[]⟩,.int .i64 0,.int .i64 0,.str ⟨#[]⟩],.struct [(0,3),(1,42)]⟩:=by kernel_rfl
theorem NL:td Tryz.prog 135=⟨true,3,56,true,[.int .i64 0,.bC,.bC],.struct [(0,3),(1,22),(2,23)]⟩:=by kernel_rfl
theorem NM:td Tryz.prog 137=⟨true,5,88,true,[.int .i64 0,.int .i64 0,.bC,.bC,.bC],.struct [(0,3),(1,135),(4,24)]⟩:=by kernel_rfl
theorem NN:td Tryz.prog 141=⟨true,1,8,true,[.nilfn],.func⟩:=by kernel_rfl
theorem NO:td Tryz.prog 142=⟨true,7,56,true,[.nilfn,.nilfn,.nilfn,.nilfn,.nilfn,.nilfn,.nilfn],.array 7 141⟩:=by kernel_rfl
theorem L8:td Tryz.prog 143=⟨true,1,8,true,[.nilm],.map 3 42⟩:=by kernel_rfl
theorem NP:td Tryz.prog 145=⟨true,3,40,true,[.int .i64 0,.nilm,.bC],.struct [(0,3),(1,143),(2,23)]⟩:=by kernel_rfl
theorem NQ:td Tryz.prog 149=⟨true,3,3,true,[.bool false,.bool false,.bool false],.struct [(0,4),(1,4),(2,4)]⟩:=by kernel_rfl
theorem NR:td Tryz.prog 177=⟨true,1,8,true,[.int .u64 0],.int .u64⟩:=by kernel_rfl
theorem NS:td Tryz.prog 179=⟨true,1,24,true,[.bC],.slice 39⟩:=by kernel_rfl
theorem NT:td Tryz.prog 194=⟨true,2,16,true,[.int .i64 0,.int .i64 0],.struct [(0,3),(1,3)]⟩:=by kernel_rfl
theorem NU:td Tryz.prog 228=⟨true,1,24,true,[.bC],.slice 5⟩:=by kernel_rfl
theorem L9:td Tryz.prog 230=⟨true,32,32,true,List.replicate 32 (.int .u8 0),.array 32 5⟩:=by kernel_rfl
theorem Nj:dL Tryz.prog 39=true:=by kernel_rfl
theorem mixed:Tryz.prog.follows .mixedOrders=true:=by kernel_rfl
theorem wD{id:Nat}{l:List Oper}{f:FR}{σ:St}{Q:MQ}(hchk:(chk l.toArray&&l.all fun o=>k7 o.op)=true)(h:R (l6 Tryz.prog (fun _ _=>none) (@OfNat.ofNat (Array Oper) (nat_lit 0) (@_root_.id (OfNat (Array Oper) (nat_lit 0)) (OfNat.mk (l.toArray)))) (Q .normal) (@OfNat.ofNat (List Oper) (nat_lit 0) (@_root_.id (OfNat (List Oper) (nat_lit 0)) (OfNat.mk l))) f σ)):R (qV Tryz.prog id (@OfNat.ofNat (List Oper) (nat_lit 0) (@_root_.id (OfNat (List Oper) (nat_lit 0)) (OfNat.mk l))) f σ Q):=A5 mixed hchk h
attribute [go_sem] td3 td4 td5 td9 ML MM MN LC MO Ec LD Of Og uN Ed J1 MP Oh Oi NV Oj Ol LF Om LG On LH NF NG NH NI NJ NK NL NM NN NO L8 NP NQ NR NS NT NU L9 Nj
end

section
theorem mD(op:Int):aA Tryz.prog 103 [.int .i64 op] St.none (fun r _=>r=.int .i64 (parts op)):=by
 refine(aA.body 11 [.tmp 2] Tryz.func103 rfl rfl rfl rfl ?_)
 repeat' (first|(with_reducible first|(refine wN fun nl hnl=>?_;revert hnl;(repeat refine wS fun _ _=>?_);intro hnl)|refine wD (by decide +kernel) ?_|refine wI (fun h=>?_) fun h=>?_|refine wF (fun h=>?_) fun h=>?_|refine wG (fun h=>?_) fun h=>?_|refine wH (fun h=>?_) fun h=>?_|((first|refine aE (fun h=>?_) fun h=>?_|refine aD (fun h=>?_) fun h=>?_)<;>simp only[h]))|simp(maxSteps:=4000000) (disch:=first|decide|assumption|omega|(simp only[wL];omega)) only[go_sem,simprocAttr,Tryz.f103])
 all_goals simp[parts, *]
theorem pC(kd n:Int)(s:ByteArray):aA Tryz.prog 102 [.agg [.int .i64 kd,.int .i64 n,.str s]] St.none (fun r _=>r=.bool (dW ⟨kd,n,s⟩)):=by
 refine(aA.body 41 [.tmp 2] Tryz.func102 rfl rfl rfl rfl ?_)
 repeat' (first|(with_reducible first|(refine wN fun nl hnl=>?_;revert hnl;(repeat refine wS fun _ _=>?_);intro hnl)|refine wD (by decide +kernel) ?_|refine wI (fun h=>?_) fun h=>?_|refine wF (fun h=>?_) fun h=>?_|refine wG (fun h=>?_) fun h=>?_|refine wH (fun h=>?_) fun h=>?_|((first|refine aE (fun h=>?_) fun h=>?_|refine aD (fun h=>?_) fun h=>?_)<;>simp only[h]))|simp(maxSteps:=4000000) (disch:=first|decide|assumption|omega|(simp only[wL];omega)) only[go_sem,simprocAttr,Tryz.f102])
 all_goals simp[dW,va0, *]
 all_goals omega
set_option maxHeartbeats 2000000 in
theorem D4 (x:ND):aA Tryz.prog 60 [.agg x.c] St.none (fun r _=>r=.bool (eC x)):=by
 refine(aA.body 86 [.tmp 2] Tryz.func60 rfl rfl rfl rfl ?_)
 obtain⟨op,n,kd,vn,s⟩:=x
 repeat' (first|(with_reducible refine aO (pC _ _ _) ?_)|(with_reducible first|(refine wN fun nl hnl=>?_;revert hnl;(repeat refine wS fun _ _=>?_);intro hnl)|refine wD (by decide +kernel) ?_|refine wI (fun h=>?_) fun h=>?_|refine wF (fun h=>?_) fun h=>?_|refine wG (fun h=>?_) fun h=>?_|refine wH (fun h=>?_) fun h=>?_|((first|refine aE (fun h=>?_) fun h=>?_|refine aD (fun h=>?_) fun h=>?_)<;>simp only[h]))|simp(maxSteps:=4000000) (disch:=first|decide|assumption|omega|(simp only[wL];omega)) only[go_sem,simprocAttr,Tryz.f60])
 all_goals first
  | (simp[eC,va0, *];done)
  | (simp[eC,va0, *];omega)
  | (simp[eC,va0, *];rintro rfl rfl rfl;rename_i h;revert h;simp[dW,va0])
theorem wO{l:List ND}{n j:Nat}(h:j<l.length):gJ (n+1) (l.drop j)=(gJ (n+parts (l.getD j nd0).op) (l.drop (j+1))).map (·+1):=by
 rw[List.drop_eq_getElem_cons h]
 have:l.getD j nd0=l[j]:=by simp[List.getD,h]
 rw[this]
 rfl
theorem mW(l:List ND)(hl:l.length≤1000000)(t:Bool)(i:Int):aA Tryz.prog 61 [.lst 5 (l.map ND.c) t,.int .i64 i] St.none (fun r _=>r=.int .i64 (fR l i)):=by
 refine(aA.body 30 [.tmp 4] Tryz.func61 rfl rfl rfl rfl ?_)
 by_cases hi:i<0
 ·repeat' (first|(with_reducible first|(refine wN fun nl hnl=>?_;revert hnl;(repeat refine wS fun _ _=>?_);intro hnl)|refine wD (by decide +kernel) ?_|refine wI (fun h=>?_) fun h=>?_|refine wF (fun h=>?_) fun h=>?_|refine wG (fun h=>?_) fun h=>?_|refine wH (fun h=>?_) fun h=>?_|((first|refine aE (fun h=>?_) fun h=>?_|refine aD (fun h=>?_) fun h=>?_)<;>simp only[h]))|simp(maxSteps:=4000000) (disch:=first|decide|assumption|omega|(simp only[wL];omega)) only[go_sem,simprocAttr,Tryz.f61])
  simp[fR,hi]
 ·obtain⟨i,rfl⟩:∃k:Nat,i=k:=⟨i.toNat,by omega⟩
  repeat' (first|(with_reducible first|(refine wN fun nl hnl=>?_;revert hnl;(repeat refine wS fun _ _=>?_);intro hnl)|refine wD (by decide +kernel) ?_|refine wI (fun h=>?_) fun h=>?_|refine wF (fun h=>?_) fun h=>?_|refine wG (fun h=>?_) fun h=>?_|refine wH (fun h=>?_) fun h=>?_|((first|refine aE (fun h=>?_) fun h=>?_|refine aD (fun h=>?_) fun h=>?_)<;>simp only[h]))|simp(maxSteps:=4000000) (disch:=first|decide|assumption|omega|(simp only[wL];omega)) only[go_sem,simprocAttr,Tryz.f61])
  refine aG (α:=Nat × Nat) (fun a=>⟨30,[(5,.int .i64 (a.2:Int)),(0,.lst 5 (l.map ND.c) t),(1,.int .i64 (a.1:Int))],[]⟩) (fun _=>St.none)
   (fun a=>i≤a.1∧a.1≤max i l.length∧a.2≤1+a.1∧gJ 1 (l.drop i)=(gJ a.2 (l.drop a.1)).map (·+(a.1 - i))) (fun a=>l.length - a.1) (.of (.less ?_ (St.le_refl _)) ⟨(i,1),rfl,rfl,?_⟩) ?_
  ·simp(maxSteps:=4000000) (disch:=first|decide|assumption|omega|(simp only[wL];omega)) only[go_sem,simprocAttr,aC,aB]
   all_goals rfl
  ·simp
   omega
  ·rintro⟨j,n⟩ ⟨h1,h2,h3,h4⟩
   simp only at h1 h2 h3 h4 ⊢
   by_cases hj:j<l.length
   ·rcases Nat.eq_zero_or_pos n with hn|hn
    ·subst hn
     repeat' (first|(with_reducible first|(refine wN fun nl hnl=>?_;revert hnl;(repeat refine wS fun _ _=>?_);intro hnl)|refine wD (by decide +kernel) ?_|refine wI (fun h=>?_) fun h=>?_|refine wF (fun h=>?_) fun h=>?_|refine wG (fun h=>?_) fun h=>?_|refine wH (fun h=>?_) fun h=>?_|((first|refine aE (fun h=>?_) fun h=>?_|refine aD (fun h=>?_) fun h=>?_)<;>simp only[h]))|simp(maxSteps:=4000000) (disch:=first|decide|assumption|omega|(simp only[wL];omega)) only[go_sem,simprocAttr,bE nd0,ND.c])
     simp only[fR,h4,gJ,Option.map_some,Int.toNat_natCast]
     rw[if_neg hi]
     simp only[MV.int.injEq,true_and]
     omega
    ·obtain⟨m,rfl⟩:∃m,n=m+1:=⟨n - 1,by omega⟩
     have hp:=iK (l.getD j nd0).op
     repeat' (first|(with_reducible refine aO (mD _) ?_)|(with_reducible first|(refine wN fun nl hnl=>?_;revert hnl;(repeat refine wS fun _ _=>?_);intro hnl)|refine wD (by decide +kernel) ?_|refine wI (fun h=>?_) fun h=>?_|refine wF (fun h=>?_) fun h=>?_|refine wG (fun h=>?_) fun h=>?_|refine wH (fun h=>?_) fun h=>?_|((first|refine aE (fun h=>?_) fun h=>?_|refine aD (fun h=>?_) fun h=>?_)<;>simp only[h]))|simp(maxSteps:=4000000) (disch:=first|decide|assumption|omega|(simp only[wL];omega)) only[go_sem,simprocAttr,bE nd0,ND.c])
     refine .of (.less (l1:=[(5,.int .i64 ((m+parts (l.getD j nd0).op:Nat):Int)),(0,.lst 5 (l.map ND.c) t),(1,.int .i64 ((j+1:Nat):Int))]) ?_ (St.le_refl _)) ⟨(j+1,m+parts (l.getD j nd0).op),rfl,rfl,⟨by simp only;omega,by simp only;omega,by simp only;omega,?_⟩,by simp only;omega⟩
     ·simp(maxSteps:=4000000) (disch:=first|decide|assumption|omega|(simp only[wL];omega)) only[go_sem,simprocAttr,aC,aB]
      all_goals omega
     ·rw[h4,wO hj]
      simp only[Option.map_map]
      congr 1
      funext k
      simp only[Function.comp]
      omega
   ·have hd:l.drop j=[]:=List.drop_eq_nil_of_le (by omega)
    rw[hd] at h4
    rcases Nat.eq_zero_or_pos n with hn|hn
    ·subst hn
     repeat' (first|(with_reducible first|(refine wN fun nl hnl=>?_;revert hnl;(repeat refine wS fun _ _=>?_);intro hnl)|refine wD (by decide +kernel) ?_|refine wI (fun h=>?_) fun h=>?_|refine wF (fun h=>?_) fun h=>?_|refine wG (fun h=>?_) fun h=>?_|refine wH (fun h=>?_) fun h=>?_|((first|refine aE (fun h=>?_) fun h=>?_|refine aD (fun h=>?_) fun h=>?_)<;>simp only[h]))|simp(maxSteps:=4000000) (disch:=first|decide|assumption|omega|(simp only[wL];omega)) only[go_sem,simprocAttr,bE nd0,ND.c])
     simp only[fR,h4,gJ,Option.map_some,Int.toNat_natCast]
     rw[if_neg hi]
     simp only[MV.int.injEq,true_and]
     omega
    ·obtain⟨m,rfl⟩:∃m,n=m+1:=⟨n - 1,by omega⟩
     repeat' (first|(with_reducible first|(refine wN fun nl hnl=>?_;revert hnl;(repeat refine wS fun _ _=>?_);intro hnl)|refine wD (by decide +kernel) ?_|refine wI (fun h=>?_) fun h=>?_|refine wF (fun h=>?_) fun h=>?_|refine wG (fun h=>?_) fun h=>?_|refine wH (fun h=>?_) fun h=>?_|((first|refine aE (fun h=>?_) fun h=>?_|refine aD (fun h=>?_) fun h=>?_)<;>simp only[h]))|simp(maxSteps:=4000000) (disch:=first|decide|assumption|omega|(simp only[wL];omega)) only[go_sem,simprocAttr,bE nd0,ND.c])
     simp only[fR,h4,gJ,Option.map_none,Int.toNat_natCast]
     rw[if_neg hi]
end

section
theorem mC(a b:Int):aA Tryz.prog 199 [.int .i64 a,.int .i64 b] St.none (fun r _=>r=.int .i64 (k6 (cmpL [a] [b]))):=by
 refine(aA.body 11 [.tmp 4] Tryz.func199 rfl rfl rfl rfl ?_)
 repeat' (first|(with_reducible first|(refine wN fun nl hnl=>?_;revert hnl;(repeat refine wS fun _ _=>?_);intro hnl)|refine wD (by decide +kernel) ?_|refine wI (fun h=>?_) fun h=>?_|refine wF (fun h=>?_) fun h=>?_|refine wG (fun h=>?_) fun h=>?_|refine wH (fun h=>?_) fun h=>?_|((first|refine aE (fun h=>?_) fun h=>?_|refine aD (fun h=>?_) fun h=>?_)<;>simp only[h]))|simp(maxSteps:=4000000) (disch:=first|exact ddL|fail) only[go_sem,simprocAttr,Tryz.f199])
 all_goals simp[cmpL,k6, *]
theorem uD(a b:VA)(ha:a.s.size≤1000000)(hb:b.s.size≤1000000):aA Tryz.prog 176 [.agg a.c,.agg b.c] St.none (fun r _=>r=.int .i64 (k6 (cmpL a.key b.key))):=by
 refine(aA.body 67 [.tmp 4] Tryz.func176 rfl rfl rfl rfl ?_)
 repeat' (first|(with_reducible refine aO (mC _ _) ?_)|(with_reducible first|(refine wN fun nl hnl=>?_;revert hnl;(repeat refine wS fun _ _=>?_);intro hnl)|refine wD (by decide +kernel) ?_|refine wI (fun h=>?_) fun h=>?_|refine wF (fun h=>?_) fun h=>?_|refine wG (fun h=>?_) fun h=>?_|refine wH (fun h=>?_) fun h=>?_|((first|refine aE (fun h=>?_) fun h=>?_|refine aD (fun h=>?_) fun h=>?_)<;>simp only[h]))|simp(maxSteps:=4000000) (disch:=first|exact ddL|fail) only[go_sem,simprocAttr,Tryz.f176])
 ·rw[show cmpL a.key b.key=cmpL [a.kd] [b.kd] from oQ h]
 ·have h1:=Classical.not_not.1 ‹¬¬a.kd=b.kd›
  have:cmpL a.key b.key=cmpL [a.n] [b.n]:=by
   rw[VA.key,VA.key,h1,jC,oQ h]
  rw[this]
 ·have h1:=Classical.not_not.1 ‹¬¬a.kd=b.kd›
  have h2:=Classical.not_not.1 ‹¬¬a.n=b.n›
  have hk:cmpL a.key b.key=cmpL (bk a.s) (bk b.s):=by
   rw[VA.key,VA.key,h1,jC,h2,jC];rfl
  rw[hk]
  rename_i pa hpa _ _ _
  refine aG (α:=Nat) (fun i=>⟨67,[(5,.int .i64 (i:Int)),(3,.ptr nl 0 0),(2,.ptr pa 0 0)],[]⟩) (fun _=>(St.none.set pa (.row 39 3 [a.c])).set nl (.row 39 3 [b.c]))
   (fun i=>i≤a.s.size∧i≤b.s.size∧cmpL (bk a.s) (bk b.s)=cmpL ((bk a.s).drop i) ((bk b.s).drop i)) (fun i=>a.s.size - i) (.of (.less ?_ (St.le_refl _)) ⟨0,rfl,rfl,by simp⟩) ?_
  ·simp(maxSteps:=4000000) (disch:=first|exact ddL|fail) only[go_sem,simprocAttr,aC,aB]
   all_goals rfl
  ·rintro i ⟨h3,h4,h5⟩
   by_cases hi:i<a.s.size∧i<b.s.size
   ·obtain⟨hi1,hi2⟩:=hi
    rw[rM hi1,rM hi2] at h5
    have hc1:((a.s.toList.getD i 0).toNat:Int)≤255:=by have:=(a.s.toList.getD i 0).toNat_lt;omega
    have hc2:((b.s.toList.getD i 0).toNat:Int)≤255:=by have:=(b.s.toList.getD i 0).toNat_lt;omega
    have hc3:0≤((a.s.toList.getD i 0).toNat:Int):=by omega
    have hc4:0≤((b.s.toList.getD i 0).toNat:Int):=by omega
    obtain⟨ca,hca⟩:∃c:Int,((a.s.toList.getD i 0).toNat:Int)=c:=⟨_,rfl⟩
    obtain⟨cb,hcb⟩:∃c:Int,((b.s.toList.getD i 0).toNat:Int)=c:=⟨_,rfl⟩
    rw[hca] at h5 hc1 hc3
    rw[hcb] at h5 hc2 hc4
    by_cases hcc:ca=cb
    ·rw[hcc,jC] at h5
     repeat' (first|(with_reducible first|(refine wN fun nl hnl=>?_;revert hnl;(repeat refine wS fun _ _=>?_);intro hnl)|refine wD (by decide +kernel) ?_|refine wI (fun h=>?_) fun h=>?_|refine wF (fun h=>?_) fun h=>?_|refine wG (fun h=>?_) fun h=>?_|refine wH (fun h=>?_) fun h=>?_|((first|refine aE (fun h=>?_) fun h=>?_|refine aD (fun h=>?_) fun h=>?_)<;>simp only[h]))|simp(maxSteps:=4000000) (disch:=first|exact ddL|fail) only[go_sem,simprocAttr,hca,hcb])
     refine .of (.less (l1:=[(5,.int .i64 ((i+1:Nat):Int)),(3,.ptr nl 0 0),(2,.ptr pa 0 0)]) ?_ (St.le_refl _)) ⟨i+1,rfl,rfl,⟨by omega,by omega,h5⟩,by omega⟩
     simp(maxSteps:=4000000) (disch:=first|exact ddL|fail) only[go_sem,simprocAttr,aC,aB]
     all_goals omega
    ·repeat' (first|(with_reducible refine aT mixed (by decide +kernel) (fun g ms=>if g=199 then some ⟨[],fun v=>v=.int .i64 (k6 (cmpL [ca] [cb])),none⟩ else none) ?_)|(with_reducible refine aQ rfl (mC _ _) ?_)|(with_reducible first|(refine wN fun nl hnl=>?_;revert hnl;(repeat refine wS fun _ _=>?_);intro hnl)|refine wD (by decide +kernel) ?_|refine wI (fun h=>?_) fun h=>?_|refine wF (fun h=>?_) fun h=>?_|refine wG (fun h=>?_) fun h=>?_|refine wH (fun h=>?_) fun h=>?_|((first|refine aE (fun h=>?_) fun h=>?_|refine aD (fun h=>?_) fun h=>?_)<;>simp only[h]))|simp(maxSteps:=4000000) (disch:=first|exact ddL|fail) only[go_sem,simprocAttr,hca,hcb])
     rw[h5,oQ (x:=(bk a.s).drop (i+1)) (y:=(bk b.s).drop (i+1)) hcc]
   ·have key:cmpL (bk a.s) (bk b.s)=cmpL [(a.s.size:Int)] [(b.s.size:Int)]:=by
     rw[h5]
     by_cases h6:i<a.s.size
     ·have h7:i=b.s.size:=by omega
      rw[rM h6,lN (s:=b.s) (n:=i) (by omega)]
      simp only[cmpL]
      rw[if_neg (by omega),if_pos (by omega)]
     ·have h7:i=a.s.size:=by omega
      rw[lN (s:=a.s) (n:=i) (by omega)]
      by_cases h8:i<b.s.size
      ·rw[rM h8]
       simp only[cmpL]
       rw[if_pos (by omega)]
      ·rw[lN (s:=b.s) (n:=i) (by omega)]
       simp only[cmpL]
       rw[if_neg (by omega),if_neg (by omega)]
    repeat' (first|(with_reducible refine aO (mC _ _) ?_)|(with_reducible first|(refine wN fun nl hnl=>?_;revert hnl;(repeat refine wS fun _ _=>?_);intro hnl)|refine wD (by decide +kernel) ?_|refine wI (fun h=>?_) fun h=>?_|refine wF (fun h=>?_) fun h=>?_|refine wG (fun h=>?_) fun h=>?_|refine wH (fun h=>?_) fun h=>?_|((first|refine aE (fun h=>?_) fun h=>?_|refine aD (fun h=>?_) fun h=>?_)<;>simp only[h]))|simp(maxSteps:=4000000) (disch:=first|exact ddL|fail) only[go_sem,simprocAttr])
    all_goals rw[key]
end

section
theorem fM(op:Int):aA Tryz.prog 125 [.int .i64 op] St.none (fun r _=>r=.int .i64 (parts op)):=by
 refine(aA.body 9 [.tmp 2] Tryz.func125 rfl rfl rfl rfl ?_)
 repeat' (first|(with_reducible first|(refine wN fun nl hnl=>?_;revert hnl;(repeat refine wS fun _ _=>?_);intro hnl)|refine wD (by decide +kernel) ?_|refine wI (fun h=>?_) fun h=>?_|refine wF (fun h=>?_) fun h=>?_|refine wG (fun h=>?_) fun h=>?_|refine wH (fun h=>?_) fun h=>?_|((first|refine aE (fun h=>?_) fun h=>?_|refine aD (fun h=>?_) fun h=>?_)<;>simp only[h]))|simp(maxSteps:=4000000) (disch:=first|decide|assumption|omega|(simp only[wL];omega)) only[go_sem,simprocAttr,Tryz.f125])
 all_goals simp[parts, *]
theorem mM(kd n:Int)(s:ByteArray):aA Tryz.prog 121 [.agg [.int .i64 kd,.int .i64 n,.str s]] St.none (fun r _=>r=.bool (dW ⟨kd,n,s⟩)):=by
 refine(aA.body 36 [.tmp 2] Tryz.func121 rfl rfl rfl rfl ?_)
 repeat' (first|(with_reducible first|(refine wN fun nl hnl=>?_;revert hnl;(repeat refine wS fun _ _=>?_);intro hnl)|refine wD (by decide +kernel) ?_|refine wI (fun h=>?_) fun h=>?_|refine wF (fun h=>?_) fun h=>?_|refine wG (fun h=>?_) fun h=>?_|refine wH (fun h=>?_) fun h=>?_|((first|refine aE (fun h=>?_) fun h=>?_|refine aD (fun h=>?_) fun h=>?_)<;>simp only[h]))|simp(maxSteps:=4000000) (disch:=first|decide|assumption|omega|(simp only[wL];omega)) only[go_sem,simprocAttr,Tryz.f121])
 all_goals first
  | (simp[dW,va0, *];done)
  | (simp[dW,va0, *];omega)
theorem qW(a:Int):aA Tryz.prog 183 [.int .i64 a] St.none (fun r _=>r=.bool false):=by
 refine(aA.body 6 [.tmp 2] Tryz.func183 rfl rfl rfl rfl ?_)
 repeat' (first|(with_reducible first|(refine wN fun nl hnl=>?_;revert hnl;(repeat refine wS fun _ _=>?_);intro hnl)|refine wD (by decide +kernel) ?_|refine wI (fun h=>?_) fun h=>?_|refine wF (fun h=>?_) fun h=>?_|refine wG (fun h=>?_) fun h=>?_|refine wH (fun h=>?_) fun h=>?_|((first|refine aE (fun h=>?_) fun h=>?_|refine aD (fun h=>?_) fun h=>?_)<;>simp only[h]))|simp(maxSteps:=4000000) (disch:=first|decide|assumption|omega|(simp only[wL];omega)) only[go_sem,simprocAttr,Tryz.f183,kP])
theorem Bv(a:ByteArray):aA Tryz.prog 227 [.str a] St.none (fun r _=>r=.bool false):=by
 refine(aA.body 6 [.tmp 2] Tryz.func227 rfl rfl rfl rfl ?_)
 repeat' (first|(with_reducible first|(refine wN fun nl hnl=>?_;revert hnl;(repeat refine wS fun _ _=>?_);intro hnl)|refine wD (by decide +kernel) ?_|refine wI (fun h=>?_) fun h=>?_|refine wF (fun h=>?_) fun h=>?_|refine wG (fun h=>?_) fun h=>?_|refine wH (fun h=>?_) fun h=>?_|((first|refine aE (fun h=>?_) fun h=>?_|refine aD (fun h=>?_) fun h=>?_)<;>simp only[h]))|simp(maxSteps:=4000000) (disch:=first|decide|assumption|omega|(simp only[wL];omega)) only[go_sem,simprocAttr,Tryz.f227,kP])
theorem lQ(a b:Int):aA Tryz.prog 188 [.int .i64 a,.int .i64 b] St.none (fun r _=>r=.int .i64 (k6 (cmpL [a] [b]))):=by
 refine(aA.body 20 [.tmp 4] Tryz.func188 rfl rfl rfl rfl ?_)
 repeat' (first|(with_reducible refine aO (qW _) ?_)|(with_reducible first|(refine wN fun nl hnl=>?_;revert hnl;(repeat refine wS fun _ _=>?_);intro hnl)|refine wD (by decide +kernel) ?_|refine wI (fun h=>?_) fun h=>?_|refine wF (fun h=>?_) fun h=>?_|refine wG (fun h=>?_) fun h=>?_|refine wH (fun h=>?_) fun h=>?_|((first|refine aE (fun h=>?_) fun h=>?_|refine aD (fun h=>?_) fun h=>?_)<;>simp only[h]))|simp(maxSteps:=4000000) (disch:=first|decide|assumption|omega|(simp only[wL];omega)) only[go_sem,simprocAttr,Tryz.f188])
 all_goals simp[cmpL,k6, *]
theorem lR(a b:ByteArray):aA Tryz.prog 214 [.str a,.str b] St.none (fun r _=>r=.int .i64 (k6 (cmpL (bk a) (bk b)))):=by
 refine(aA.body 20 [.tmp 4] Tryz.func214 rfl rfl rfl rfl ?_)
 have hb:=nG a.toList b.toList
 change _=decide (cmpL (bk a) (bk b)=.lt) at hb
 repeat' (first|(with_reducible refine aO (Bv _) ?_)|(with_reducible first|(refine wN fun nl hnl=>?_;revert hnl;(repeat refine wS fun _ _=>?_);intro hnl)|refine wD (by decide +kernel) ?_|refine wI (fun h=>?_) fun h=>?_|refine wF (fun h=>?_) fun h=>?_|refine wG (fun h=>?_) fun h=>?_|refine wH (fun h=>?_) fun h=>?_|((first|refine aE (fun h=>?_) fun h=>?_|refine aD (fun h=>?_) fun h=>?_)<;>simp only[h]))|simp(maxSteps:=4000000) (disch:=first|decide|assumption|omega|(simp only[wL];omega)) only[go_sem,simprocAttr,Tryz.f214])
 ·rw[hb] at h
  simp only[decide_eq_true_eq] at h
  rw[h];rfl
 ·rename_i h0
  rw[hb] at h0
  simp only[decide_eq_false_iff_not] at h0
  simp only[Bool.not_eq_true',Bool.or_eq_false_iff,decide_eq_false_iff_not] at h
  have h1:cmpL (bk a) (bk b)≠.eq:=fun e=>h.2 (bytes_inj (cmpL_eq.1 e))
  cases e:cmpL (bk a) (bk b)
  ·exact absurd e h0
  ·exact absurd e h1
  ·rfl
 ·rename_i h0
  simp only[h0,Bool.false_or,Bool.not_eq_false',decide_eq_true_eq] at h
  rw[h,pQ];rfl
theorem Kt{l:List ND}{i:Int}(h:¬(i<0∨(l.length:Int)≤i)):fR l i=match gJ 1 (l.drop i.toNat) with
  | none=>-1
  | some k=>i+k:=by
 unfold fR
 rw[if_neg (by omega)]
 cases gJ 1 (l.drop i.toNat)<;>rfl
theorem xP(l:List ND)(hl:l.length≤1000000)(t:Bool)(i:Int):aA Tryz.prog 83 [.lst 5 (l.map ND.c) t,.int .i64 i] St.none (fun r _=>r=.int .i64 (fR l i)):=by
 refine(aA.body 38 [.tmp 4] Tryz.func83 rfl rfl rfl rfl ?_)
 by_cases hi:i<0∨(l.length:Int)≤i
 ·have he:fR l i = -1:=by
   unfold fR
   by_cases h0:i<0
   ·rw[if_pos h0]
   ·rw[if_neg h0,List.drop_eq_nil_of_le (by omega)];rfl
  rw[he]
  repeat' (first|(with_reducible first|(refine wN fun nl hnl=>?_;revert hnl;(repeat refine wS fun _ _=>?_);intro hnl)|refine wD (by decide +kernel) ?_|refine wI (fun h=>?_) fun h=>?_|refine wF (fun h=>?_) fun h=>?_|refine wG (fun h=>?_) fun h=>?_|refine wH (fun h=>?_) fun h=>?_|((first|refine aE (fun h=>?_) fun h=>?_|refine aD (fun h=>?_) fun h=>?_)<;>simp only[h]))|simp(maxSteps:=4000000) (disch:=first|decide|assumption|omega|(simp only[wL];omega)) only[go_sem,simprocAttr,Tryz.f83])
 ·obtain⟨m,hm⟩:∃m,l.drop i.toNat=m:=⟨_,rfl⟩
  have hml:l.length - i.toNat=m.length:=by rw[←hm];simp
  have hm0:m.length≤1000000:=by omega
  have hb:i+m.length≤1000000:=by omega
  have h0:0≤i:=by omega
  rw[Kt hi,hm]
  repeat' (first|(with_reducible first|(refine wN fun nl hnl=>?_;revert hnl;(repeat refine wS fun _ _=>?_);intro hnl)|refine wD (by decide +kernel) ?_|refine wI (fun h=>?_) fun h=>?_|refine wF (fun h=>?_) fun h=>?_|refine wG (fun h=>?_) fun h=>?_|refine wH (fun h=>?_) fun h=>?_|((first|refine aE (fun h=>?_) fun h=>?_|refine aD (fun h=>?_) fun h=>?_)<;>simp only[h]))|simp(maxSteps:=4000000) (disch:=first|decide|assumption|omega|(simp only[wL];omega)) only[go_sem,simprocAttr,Tryz.f83,hm,hml])
  refine aG (α:=Nat × Nat) (fun a=>⟨38,[(20,.int .i64 (a.1:Int)),(19,.int .i64 (m.length:Int)),(18,.lst 5 (m.map ND.c) t),(5,.int .i64 (a.2:Int)),(1,.int .i64 i)],[]⟩) (fun _=>St.none)
   (fun a=>a.1≤m.length∧1≤a.2∧a.2≤1+a.1∧gJ 1 m=(gJ a.2 (m.drop a.1)).map (·+a.1)) (fun a=>m.length - a.1) (.of (.less ?_ (St.le_refl _)) ⟨(0,1),rfl,rfl,by simp⟩) ?_
  ·simp(maxSteps:=4000000) (disch:=first|decide|assumption|omega|(simp only[wL];omega)) only[go_sem,simprocAttr,aC,aB]
   all_goals omega
  ·rintro⟨k,n⟩ ⟨h1,h2,h3,h4⟩
   simp only at h1 h2 h3 h4 ⊢
   obtain⟨q,rfl⟩:∃q,n=q+1:=⟨n - 1,by omega⟩
   by_cases hk:k<m.length
   ·have hp:=iK (m.getD k nd0).op
    rw[wO hk] at h4
    obtain⟨pp,hpp⟩:∃pp:Nat,parts (m.getD k nd0).op=pp:=⟨_,rfl⟩
    rw[hpp] at h4 hp
    by_cases hz:q+pp=0
    ·rw[hz] at h4
     have hq:q=0:=by omega
     have hpz:pp=0:=by omega
     subst hq
     rw[hpz] at hpp
     repeat' (first|(with_reducible refine aO (fM _) ?_)|(with_reducible first|(refine wN fun nl hnl=>?_;revert hnl;(repeat refine wS fun _ _=>?_);intro hnl)|refine wD (by decide +kernel) ?_|refine wI (fun h=>?_) fun h=>?_|refine wF (fun h=>?_) fun h=>?_|refine wG (fun h=>?_) fun h=>?_|refine wH (fun h=>?_) fun h=>?_|((first|refine aE (fun h=>?_) fun h=>?_|refine aD (fun h=>?_) fun h=>?_)<;>simp only[h]))|simp(maxSteps:=4000000) (disch:=first|decide|assumption|omega|(simp only[wL];omega)) only[go_sem,simprocAttr,bE nd0,hpp])
     rw[h4]
     simp only[gJ,Option.map_some,MV.int.injEq,true_and]
     have e1:((0+1+k:Nat):Int)=(k:Int)+1:=by omega
     rw[e1,Int.add_assoc]
    ·repeat' (first|(with_reducible refine aO (fM _) ?_)|(with_reducible first|(refine wN fun nl hnl=>?_;revert hnl;(repeat refine wS fun _ _=>?_);intro hnl)|refine wD (by decide +kernel) ?_|refine wI (fun h=>?_) fun h=>?_|refine wF (fun h=>?_) fun h=>?_|refine wG (fun h=>?_) fun h=>?_|refine wH (fun h=>?_) fun h=>?_|((first|refine aE (fun h=>?_) fun h=>?_|refine aD (fun h=>?_) fun h=>?_)<;>simp only[h]))|simp(maxSteps:=4000000) (disch:=first|decide|assumption|omega|(simp only[wL];omega)) only[go_sem,simprocAttr,bE nd0,hpp])
     refine .of (.less (l1:=[(20,.int .i64 ((k+1:Nat):Int)),(19,.int .i64 (m.length:Int)),(18,.lst 5 (m.map ND.c) t),(5,.int .i64 ((q+pp:Nat):Int)),(1,.int .i64 i)]) ?_ (St.none_le _)) ⟨(k+1,q+pp),rfl,rfl,⟨by simp only;omega,by simp only;omega,by simp only;omega,?_⟩,by simp only;omega⟩
     ·simp(maxSteps:=4000000) (disch:=first|decide|assumption|omega|(simp only[wL];omega)) only[go_sem,simprocAttr,aC,aB]
      all_goals omega
     ·rw[h4]
      simp only[Option.map_map]
      congr 1
      funext k
      simp only[Function.comp]
      omega
   ·rw[List.drop_eq_nil_of_le (by omega)] at h4
    rw[h4]
    repeat' (first|(with_reducible first|(refine wN fun nl hnl=>?_;revert hnl;(repeat refine wS fun _ _=>?_);intro hnl)|refine wD (by decide +kernel) ?_|refine wI (fun h=>?_) fun h=>?_|refine wF (fun h=>?_) fun h=>?_|refine wG (fun h=>?_) fun h=>?_|refine wH (fun h=>?_) fun h=>?_|((first|refine aE (fun h=>?_) fun h=>?_|refine aD (fun h=>?_) fun h=>?_)<;>simp only[h]))|simp(maxSteps:=4000000) (disch:=first|decide|assumption|omega|(simp only[wL];omega)) only[go_sem,simprocAttr,bE nd0])
    rfl
theorem CZ(p:ND→Bool)(g:FuncId)(l:List ND)(hl:l.length≤1000000)(t:Bool)(hg:∀x,x∈l→aA Tryz.prog g [.agg x.c] St.none (fun r _=>r=.bool (p x))) :
  aA Tryz.prog 126 [.lst 5 (l.map ND.c) t,.fn (.func g) [] []] St.none (fun r _=>r=.int .i64 (if l.any p then(l.findIdx p:Int) else -1)):=by
 refine(aA.body 19 [.tmp 4] Tryz.func126 rfl rfl rfl rfl ?_)
 repeat' (first|(with_reducible first|(refine wN fun nl hnl=>?_;revert hnl;(repeat refine wS fun _ _=>?_);intro hnl)|refine wD (by decide +kernel) ?_|refine wI (fun h=>?_) fun h=>?_|refine wF (fun h=>?_) fun h=>?_|refine wG (fun h=>?_) fun h=>?_|refine wH (fun h=>?_) fun h=>?_|((first|refine aE (fun h=>?_) fun h=>?_|refine aD (fun h=>?_) fun h=>?_)<;>simp only[h]))|simp(maxSteps:=4000000) (disch:=first|decide|assumption|omega|(simp only[wL];omega)) only[go_sem,simprocAttr,Tryz.f126])
 refine aG (α:=Nat) (fun k=>⟨19,[(8,.int .i64 (k:Int)),(7,.int .i64 (l.length:Int)),(6,.lst 5 (l.map ND.c) t),(0,.lst 5 (l.map ND.c) t),(1,.fn (.func g) [] [])],[]⟩) (fun _=>St.none)
  (fun k=>k≤l.length∧(l.take k).any p=false) (fun k=>l.length - k) (.of (.less ?_ (St.le_refl _)) ⟨0,rfl,rfl,by simp⟩) ?_
 ·simp(maxSteps:=4000000) (disch:=first|decide|assumption|omega|(simp only[wL];omega)) only[go_sem,simprocAttr,aC,aB]
  all_goals rfl
 ·rintro k ⟨h1,h2⟩
  by_cases hk:k<l.length
  ·have hgk:=hg _ (eN nd0 hk)
   cases hp:p (l.getD k nd0)
   ·rw[hp] at hgk
    repeat' (first|(with_reducible refine aO hgk ?_)|(with_reducible first|(refine wN fun nl hnl=>?_;revert hnl;(repeat refine wS fun _ _=>?_);intro hnl)|refine wD (by decide +kernel) ?_|refine wI (fun h=>?_) fun h=>?_|refine wF (fun h=>?_) fun h=>?_|refine wG (fun h=>?_) fun h=>?_|refine wH (fun h=>?_) fun h=>?_|((first|refine aE (fun h=>?_) fun h=>?_|refine aD (fun h=>?_) fun h=>?_)<;>simp only[h]))|simp(maxSteps:=4000000) (disch:=first|decide|assumption|omega|(simp only[wL];omega)) only[go_sem,simprocAttr,bE nd0])
    refine .of (.less (l1:=[(8,.int .i64 ((k+1:Nat):Int)),(7,.int .i64 (l.length:Int)),(6,.lst 5 (l.map ND.c) t),(0,.lst 5 (l.map ND.c) t),(1,.fn (.func g) [] [])]) ?_ (St.le_refl _)) ⟨k+1,rfl,rfl,⟨by omega,?_⟩,by omega⟩
    ·simp(maxSteps:=4000000) (disch:=first|decide|assumption|omega|(simp only[wL];omega)) only[go_sem,simprocAttr,aC,aB]
     all_goals omega
    ·rw[nF hk,h2,←bJ nd0 hk,hp];rfl
   ·rw[hp] at hgk
    have hany:l.any p=true:=List.any_eq_true.2 ⟨_,eN nd0 hk,hp⟩
    have hf:l.findIdx p=k:=by
     rw[List.findIdx_eq hk]
     refine⟨by rw[←bJ nd0 hk];exact hp,fun j hj=>?_⟩
     have:=List.any_eq_false.1 h2 l[j] (by rw[List.mem_take_iff_getElem];exact⟨j,by omega,rfl⟩)
     simpa using this
    rw[hany,hf]
    repeat' (first|(with_reducible refine aO hgk ?_)|(with_reducible first|(refine wN fun nl hnl=>?_;revert hnl;(repeat refine wS fun _ _=>?_);intro hnl)|refine wD (by decide +kernel) ?_|refine wI (fun h=>?_) fun h=>?_|refine wF (fun h=>?_) fun h=>?_|refine wG (fun h=>?_) fun h=>?_|refine wH (fun h=>?_) fun h=>?_|((first|refine aE (fun h=>?_) fun h=>?_|refine aD (fun h=>?_) fun h=>?_)<;>simp only[h]))|simp(maxSteps:=4000000) (disch:=first|decide|assumption|omega|(simp only[wL];omega)) only[go_sem,simprocAttr,bE nd0])
  ·have:k=l.length:=by omega
   subst this
   rw[List.take_length] at h2
   rw[h2]
   repeat' (first|(with_reducible first|(refine wN fun nl hnl=>?_;revert hnl;(repeat refine wS fun _ _=>?_);intro hnl)|refine wD (by decide +kernel) ?_|refine wI (fun h=>?_) fun h=>?_|refine wF (fun h=>?_) fun h=>?_|refine wG (fun h=>?_) fun h=>?_|refine wH (fun h=>?_) fun h=>?_|((first|refine aE (fun h=>?_) fun h=>?_|refine aD (fun h=>?_) fun h=>?_)<;>simp only[h]))|simp(maxSteps:=4000000) (disch:=first|decide|assumption|omega|(simp only[wL];omega)) only[go_sem,simprocAttr,bE nd0])
theorem u5(p:ND→Bool)(g:FuncId)(l:List ND)(hl:l.length≤1000000)(t:Bool)(hg:∀x,x∈l→aA Tryz.prog g [.agg x.c] St.none (fun r _=>r=.bool (p x))) :
  aA Tryz.prog 84 [.lst 5 (l.map ND.c) t,.fn (.func g) [] []] St.none (fun r _=>r=.bool (l.any p)):=by
 refine(aA.body 9 [.tmp 4] Tryz.func84 rfl rfl rfl rfl ?_)
 have hi:=CZ p g l hl t hg
 cases hany:l.any p
 ·rw[hany] at hi
  simp only[Bool.false_eq_true,if_false] at hi
  repeat' (first|(with_reducible refine aO hi ?_)|(with_reducible first|(refine wN fun nl hnl=>?_;revert hnl;(repeat refine wS fun _ _=>?_);intro hnl)|refine wD (by decide +kernel) ?_|refine wI (fun h=>?_) fun h=>?_|refine wF (fun h=>?_) fun h=>?_|refine wG (fun h=>?_) fun h=>?_|refine wH (fun h=>?_) fun h=>?_|((first|refine aE (fun h=>?_) fun h=>?_|refine aD (fun h=>?_) fun h=>?_)<;>simp only[h]))|simp(maxSteps:=4000000) (disch:=first|decide|assumption|omega|(simp only[wL];omega)) only[go_sem,simprocAttr,Tryz.f84])
 ·rw[hany] at hi
  simp only[if_true] at hi
  repeat' (first|(with_reducible refine aO hi ?_)|(with_reducible first|(refine wN fun nl hnl=>?_;revert hnl;(repeat refine wS fun _ _=>?_);intro hnl)|refine wD (by decide +kernel) ?_|refine wI (fun h=>?_) fun h=>?_|refine wF (fun h=>?_) fun h=>?_|refine wG (fun h=>?_) fun h=>?_|refine wH (fun h=>?_) fun h=>?_|((first|refine aE (fun h=>?_) fun h=>?_|refine aD (fun h=>?_) fun h=>?_)<;>simp only[h]))|simp(maxSteps:=4000000) (disch:=first|decide|assumption|omega|(simp only[wL];omega)) only[go_sem,simprocAttr,Tryz.f84])
  simp
theorem vY(a b:VA):aA Tryz.prog 196 [.agg a.c,.agg b.c] St.none (fun r _=>r=.int .i64 (k6 (cmpL a.key b.key))):=by
 refine(aA.body 28 [.tmp 4] Tryz.func196 rfl rfl rfl rfl ?_)
 by_cases h1:a.kd=b.kd
 ·have e1:cmpL a.key b.key=cmpL (a.n::bk a.s) (b.n::bk b.s):=by rw[VA.key,VA.key,h1,jC];rfl
  have c1:k6 (cmpL [a.kd] [b.kd])=0:=by rw[h1,pQ];rfl
  by_cases h2:a.n=b.n
  ·have e2:cmpL a.key b.key=cmpL (bk a.s) (bk b.s):=by rw[e1,h2,jC]
   have c2:k6 (cmpL [a.n] [b.n])=0:=by rw[h2,pQ];rfl
   rw[e2]
   repeat' (first|(with_reducible refine aO (lQ _ _) ?_)|(with_reducible refine aO (lR _ _) ?_)|(with_reducible first|(refine wN fun nl hnl=>?_;revert hnl;(repeat refine wS fun _ _=>?_);intro hnl)|refine wD (by decide +kernel) ?_|refine wI (fun h=>?_) fun h=>?_|refine wF (fun h=>?_) fun h=>?_|refine wG (fun h=>?_) fun h=>?_|refine wH (fun h=>?_) fun h=>?_|((first|refine aE (fun h=>?_) fun h=>?_|refine aD (fun h=>?_) fun h=>?_)<;>simp only[h]))|simp(maxSteps:=4000000) (disch:=first|decide|assumption|omega|(simp only[wL];omega)) only[go_sem,simprocAttr,Tryz.f196,c1,c2])
  ·have e2:cmpL a.key b.key=cmpL [a.n] [b.n]:=by rw[e1,oQ h2]
   have c2:k6 (cmpL [a.n] [b.n])≠0:=fun h=>h2 (by have:=cmpL_eq.1 (xK.1 h);simpa using this)
   rw[e2]
   repeat' (first|(with_reducible refine aO (lQ _ _) ?_)|(with_reducible refine aO (lR _ _) ?_)|(with_reducible first|(refine wN fun nl hnl=>?_;revert hnl;(repeat refine wS fun _ _=>?_);intro hnl)|refine wD (by decide +kernel) ?_|refine wI (fun h=>?_) fun h=>?_|refine wF (fun h=>?_) fun h=>?_|refine wG (fun h=>?_) fun h=>?_|refine wH (fun h=>?_) fun h=>?_|((first|refine aE (fun h=>?_) fun h=>?_|refine aD (fun h=>?_) fun h=>?_)<;>simp only[h]))|simp(maxSteps:=4000000) (disch:=first|decide|assumption|omega|(simp only[wL];omega)) only[go_sem,simprocAttr,Tryz.f196,c1])
 ·have e1:cmpL a.key b.key=cmpL [a.kd] [b.kd]:=by rw[VA.key,VA.key,oQ h1]
  have c1:k6 (cmpL [a.kd] [b.kd])≠0:=fun h=>h1 (by have:=cmpL_eq.1 (xK.1 h);simpa using this)
  rw[e1]
  repeat' (first|(with_reducible refine aO (lQ _ _) ?_)|(with_reducible refine aO (lR _ _) ?_)|(with_reducible first|(refine wN fun nl hnl=>?_;revert hnl;(repeat refine wS fun _ _=>?_);intro hnl)|refine wD (by decide +kernel) ?_|refine wI (fun h=>?_) fun h=>?_|refine wF (fun h=>?_) fun h=>?_|refine wG (fun h=>?_) fun h=>?_|refine wH (fun h=>?_) fun h=>?_|((first|refine aE (fun h=>?_) fun h=>?_|refine aD (fun h=>?_) fun h=>?_)<;>simp only[h]))|simp(maxSteps:=4000000) (disch:=first|decide|assumption|omega|(simp only[wL];omega)) only[go_sem,simprocAttr,Tryz.f196])
end

section
open Go.Shelf
def nJ:Go.Shelf.Ren:=⟨fun|7=>179|10=>202|n=>n,fun|23=>143|26=>3|3=>42|28=>189|0=>0|27=>188|33=>191|4=>4|n=>n,fun|n=>n⟩
theorem F1:Go.Proofs.SlLaysZI.n7 Tryz.prog nJ:={
  mixed:=by kernel_rfl
  f7:=⟨Tryz.f179.name,by decide,Tryz.func179.trans (congrArg some (by kernel_rfl))⟩
  f10:=⟨Tryz.f202.name,by decide,Tryz.func202.trans (congrArg some (by kernel_rfl))⟩
  t0:=Tryz.underlying0
  a0:=Tryz.isAgg0
  z0:=Tryz.sizeOf0
  v0:=Tryz.zeroValue0
  t4:=Tryz.underlying4
  a4:=Tryz.isAgg4
  z4:=Tryz.sizeOf4
  v4:=Tryz.zeroValue4
  t23:=Tryz.underlying143
  a23:=Tryz.isAgg143
  z23:=Tryz.sizeOf143
  v23:=Tryz.zeroValue143
  t26:=Tryz.underlying3
  a26:=Tryz.isAgg3
  z26:=Tryz.sizeOf3
  v26:=Tryz.zeroValue3
  t27:=Tryz.underlying188
  a27:=Tryz.isAgg188
  z27:=Tryz.sizeOf188
  v27:=Tryz.zeroValue188
  t28:=Tryz.underlying189
  a28:=Tryz.isAgg189
  z28:=Tryz.sizeOf189
  v28:=Tryz.zeroValue189
  t33:=Tryz.underlying191
  a33:=Tryz.isAgg191
  z33:=Tryz.sizeOf191
  v33:=Tryz.zeroValue191 }
def iP:Go.Shelf.Ren:=⟨fun|6=>178|8=>139|9=>201|11=>180|13=>217|12=>216|23=>237|24=>238|14=>229|15=>230|16=>231|17=>232|18=>233|19=>234|20=>141|21=>235|22=>236|25=>244|26=>245|27=>246|28=>247|29=>248|30=>183|31=>251|n=>n,fun|26=>3|28=>189|24=>46|0=>0|3=>3|37=>177|48=>28|50=>255|4=>4|40=>249|39=>248|45=>161|5=>5|9=>9|51=>257|55=>261|57=>265|58=>266|33=>191|n=>n,fun|n=>n⟩
theorem AU:Go.Proofs.SlLaysZI.n6 Tryz.prog iP:={
  mixed:=by kernel_rfl
  f6:=⟨Tryz.f178.name,by decide,Tryz.func178.trans (congrArg some (by kernel_rfl))⟩
  f8:=⟨Tryz.f139.name,by decide,Tryz.func139.trans (congrArg some (by kernel_rfl))⟩
  f11:=⟨Tryz.f180.name,by decide,Tryz.func180.trans (congrArg some (by kernel_rfl))⟩
  t0:=Tryz.underlying0
  a0:=Tryz.isAgg0
  z0:=Tryz.sizeOf0
  v0:=Tryz.zeroValue0
  t24:=Tryz.underlying46
  a24:=Tryz.isAgg46
  z24:=Tryz.sizeOf46
  v24:=Tryz.zeroValue46
  t26:=Tryz.underlying3
  a26:=Tryz.isAgg3
  z26:=Tryz.sizeOf3
  v26:=Tryz.zeroValue3
  t28:=Tryz.underlying189
  a28:=Tryz.isAgg189
  z28:=Tryz.sizeOf189
  v28:=Tryz.zeroValue189
  i26:=by kernel_rfl }
def vC:Go.Shelf.Ren:=⟨fun|5=>201|8=>217|7=>216|19=>237|20=>238|10=>229|11=>230|12=>231|13=>232|14=>233|15=>234|16=>141|17=>235|18=>236|30=>244|31=>245|32=>246|33=>247|34=>248|35=>183|40=>251|n=>n,fun|23=>46|25=>3|3=>3|32=>177|22=>46|0=>0|44=>28|46=>255|4=>4|36=>249|35=>248|41=>161|5=>5|9=>9|53=>257|57=>261|63=>265|64=>266|n=>n,fun|n=>n⟩
theorem xA:Go.Proofs.SlLaysM.n5 Tryz.prog vC:={
  mixed:=by kernel_rfl
  f5:=⟨Tryz.f201.name,by decide,Tryz.func201.trans (congrArg some (by kernel_rfl))⟩
  f7:=⟨Tryz.f216.name,by decide,Tryz.func216.trans (congrArg some (by kernel_rfl))⟩
  f8:=Tryz.func217.trans (congrArg some (by kernel_rfl))
  f10:=⟨Tryz.f229.name,by decide,Tryz.func229.trans (congrArg some (by kernel_rfl))⟩
  f11:=⟨Tryz.f230.name,by decide,Tryz.func230.trans (congrArg some (by kernel_rfl))⟩
  f12:=⟨Tryz.f231.name,by decide,Tryz.func231.trans (congrArg some (by kernel_rfl))⟩
  f13:=⟨Tryz.f232.name,by decide,Tryz.func232.trans (congrArg some (by kernel_rfl))⟩
  f14:=⟨Tryz.f233.name,by decide,Tryz.func233.trans (congrArg some (by kernel_rfl))⟩
  f15:=⟨Tryz.f234.name,by decide,Tryz.func234.trans (congrArg some (by kernel_rfl))⟩
  f16:=⟨Tryz.f141.name,by decide,Tryz.func141.trans (congrArg some (by kernel_rfl))⟩
  f17:=⟨Tryz.f235.name,by decide,Tryz.func235.trans (congrArg some (by kernel_rfl))⟩
  f18:=⟨Tryz.f236.name,by decide,Tryz.func236.trans (congrArg some (by kernel_rfl))⟩
  f19:=Tryz.func237.trans (congrArg some (by kernel_rfl))
  f20:=Tryz.func238.trans (congrArg some (by kernel_rfl))
  f30:=⟨Tryz.f244.name,by decide,Tryz.func244.trans (congrArg some (by kernel_rfl))⟩
  f31:=Tryz.func245.trans (congrArg some (by kernel_rfl))
  f32:=Tryz.func246.trans (congrArg some (by kernel_rfl))
  f33:=⟨Tryz.f247.name,by decide,Tryz.func247.trans (congrArg some (by kernel_rfl))⟩
  f34:=⟨Tryz.f248.name,by decide,Tryz.func248.trans (congrArg some (by kernel_rfl))⟩
  f35:=⟨Tryz.f183.name,by decide,Tryz.func183.trans (congrArg some (by kernel_rfl))⟩
  f40:=⟨Tryz.f251.name,by decide,Tryz.func251.trans (congrArg some (by kernel_rfl))⟩
  t0:=Tryz.underlying0
  a0:=Tryz.isAgg0
  z0:=Tryz.sizeOf0
  v0:=Tryz.zeroValue0
  t3:=Tryz.underlying3
  a3:=Tryz.isAgg3
  z3:=Tryz.sizeOf3
  v3:=Tryz.zeroValue3
  t4:=Tryz.underlying4
  a4:=Tryz.isAgg4
  z4:=Tryz.sizeOf4
  v4:=Tryz.zeroValue4
  t5:=Tryz.underlying5
  a5:=Tryz.isAgg5
  z5:=Tryz.sizeOf5
  v5:=Tryz.zeroValue5
  t9:=Tryz.underlying9
  a9:=Tryz.isAgg9
  z9:=Tryz.sizeOf9
  v9:=Tryz.zeroValue9
  t22:=Tryz.underlying46
  a22:=Tryz.isAgg46
  z22:=Tryz.sizeOf46
  v22:=Tryz.zeroValue46
  t23:=Tryz.underlying46
  a23:=Tryz.isAgg46
  z23:=Tryz.sizeOf46
  v23:=Tryz.zeroValue46
  t25:=Tryz.underlying3
  a25:=Tryz.isAgg3
  z25:=Tryz.sizeOf3
  v25:=Tryz.zeroValue3
  t32:=Tryz.underlying177
  a32:=Tryz.isAgg177
  z32:=Tryz.sizeOf177
  v32:=Tryz.zeroValue177
  t35:=Tryz.underlying248
  a35:=Tryz.isAgg248
  z35:=Tryz.sizeOf248
  v35:=Tryz.zeroValue248
  t36:=Tryz.underlying249
  a36:=Tryz.isAgg249
  z36:=Tryz.sizeOf249
  v36:=Tryz.zeroValue249
  t41:=Tryz.underlying161
  a41:=Tryz.isAgg161
  z41:=Tryz.sizeOf161
  v41:=Tryz.zeroValue161
  t44:=Tryz.underlying28
  a44:=Tryz.isAgg28
  z44:=Tryz.sizeOf28
  v44:=Tryz.zeroValue28
  t46:=Tryz.underlying255
  a46:=Tryz.isAgg255
  z46:=Tryz.sizeOf255
  v46:=Tryz.zeroValue255
  t53:=Tryz.underlying257
  a53:=Tryz.isAgg257
  z53:=Tryz.sizeOf257
  v53:=Tryz.zeroValue257
  t57:=Tryz.underlying261
  a57:=Tryz.isAgg261
  z57:=Tryz.sizeOf261
  v57:=Tryz.zeroValue261
  t63:=Tryz.underlying265
  a63:=Tryz.isAgg265
  z63:=Tryz.sizeOf265
  v63:=Tryz.zeroValue265
  t64:=Tryz.underlying266
  a64:=Tryz.isAgg266
  z64:=Tryz.sizeOf266
  v64:=Tryz.zeroValue266 }
end

section
open Go.MapKept Go.RowKit Go.Maps Go.Sort Go.Shelf
open Go.WideElems (Fit rd rg)
def Mq:MV→Int
 | .int _ n=>n
 | _=>0
def gN(es:List (MV × MV)):List Int:=es.map fun p=>Mq p.1
def mA{H:Type}(_:Value):Option (DataW H × List MemPlace):=some (.lit (.bool true),[])
theorem Lp{H:Type}{P:Program}{Φ:Phi}{w:World}{l:Nat}{es:List (MV × MV)}{k:TypeId}(h:cX Φ w l (.mp es))(hk:P.underlying k=some (.int .i64))
 (he:(es.all fun p=>isK .i64 p.1)=true)(hwf:∀n∈gN es,(Lit.int .i64 n).wf=true)(hl:es.length≤maxLen) :
  ∃(p:Place) (b:Nat) (D0:DataW H),Φ.obj l=some p∧p.blk=some b∧w.ownsMap P k mA b es.length D0∧(intKeys D0).Perm (gN es)∧Maps.size D0=es.length:=by
 obtain⟨p,R,c,clock,hp,hR,hh,hs,hst,hrel⟩:=h.EU
 have key:∀(i:Nat) (e:MapEntry),c.toList[i]?=some e→Go.WideElems.rd (H:=H) P k mA e=some (Lit.int .i64 ((gN es).getD i 0),.lit (.bool true)):=fun i e hi=>by
  have hlt:i<es.length:=by
   have:=(List.getElem?_eq_some_iff.1 hi).1
   rw[←hs];simpa using this
  obtain⟨e',q1,q2,_⟩:=hrel i es[i] (List.getElem?_eq_getElem hlt)
  rw[hi] at q1;cases q1
  have hik:=List.all_eq_true.1 he es[i] (List.getElem_mem hlt)
  obtain⟨n,hn⟩:=yK hik
  rw[hn] at q2
  have hkn:(gN es).getD i 0=n:=by
   simp[gN,List.getD_eq_getElem?_getD,List.getElem?_eq_getElem hlt,hn,Mq]
  have hw:=hwf n (by
   rw[gN,List.mem_map]
   exact⟨es[i],List.getElem_mem hlt,by rw[hn];rfl⟩)
  rw[hkn]
  simp[Go.WideElems.rd,mA,q2.aV,keyOf,mapKey,hk,hw]
 have hF:Fit (H:=H) P k mA c clock:=⟨by rw[hs];exact hl,hst,fun x hx=>by
  obtain⟨i,hi,rfl⟩:=List.mem_iff_getElem.1 hx
  exact⟨_,key i _ (List.getElem?_eq_getElem hi)⟩⟩
 have hmap:(c.toList.map (rg (H:=H) P k mA)).map (fun q=>Go.intOf q.1)=gN es:=by
  refine List.ext_getElem? fun i=>?_
  simp only[List.map_map,List.getElem?_map]
  rcases Nat.lt_or_ge i es.length with hi|hi
  ·have hc:i<c.toList.length:=by simpa[hs] using hi
   rw[List.getElem?_eq_getElem hc]
   have h1:=key i _ (List.getElem?_eq_getElem hc)
   simp only[Option.map_some,Function.comp,Go.WideElems.rg_of h1]
   have h2:i<(gN es).length:=by simpa[gN] using hi
   simp[Go.intOf,List.getD_eq_getElem?_getD,List.getElem?_eq_getElem h2]
  ·rw[List.getElem?_eq_none (by simpa[hs] using hi),List.getElem?_eq_none (by simpa[gN] using hi)]
   rfl
 refine⟨p,R,.map ((c.toList.map (rg P k mA)).foldr DataW.insert []),hp,hR,⟨c,clock,hh,hF,by omega,rfl⟩,?_,?_⟩
 ·show(((c.toList.map (rg P k mA)).foldr DataW.insert []).map fun q=>Go.intOf q.1).Perm _
  rw[←hmap]
  exact(Go.WideShapes.sorted_perm _).map _
 ·show((c.toList.map (rg P k mA)).foldr DataW.insert []).length=_
  rw[length_sorted];simp[hs]
theorem Inv.Lx{Φ:Phi}{w w':World}{σ:St}(hi:Inv Φ w σ)(hi':Inv Φ w' σ)(st:Step Φ σ w Φ σ w')(g:Nat)(hg:w.heap.size≤g) :
  Inv (Φ.oF w' (fun k=>k=g)) w' σ∧Step Φ σ w (Φ.oF w' (fun k=>k=g)) σ w':=by
 have hle:=rT Φ w' (fun k=>k=g)
 refine⟨⟨fun l o h=>(hi'.own l o h).mono hle (fun _ _ _ _=>rfl),hi'.inj,fun a v hv=>?_,fun l o p R a v hl hp hR hv=>?_,hi.fresh.1,fun q i v h=>hle.snap _ _ (hi.fresh.2.1 q i v h),hi.fresh.2.2.mono hle.snap⟩,
  ⟨hle,st.os,st.tape,st.output,st.drawn,st.size,st.block,fun a v hv=>?_,st.locs,st.ownd⟩⟩
 ·rcases eG hv with q|⟨_,q⟩
  ·exact hi'.snap a v q
  ·exact q
 ·rcases eG hv with q|⟨q,_⟩
  ·exact hi'.apart l o p R a v hl hp hR q
  ·intro e
   obtain⟨p',hp',hlt⟩:=(hi.own l o hl).place
   rw[show Φ.obj l=some p from hp] at hp'
   cases hp'
   have:=hlt R hR
   have q:R=g:=by rw[←e];exact q
   omega
 ·rcases eG hv with q|⟨q,_⟩
  ·exact .inl q
  ·have q:a.block=g:=q
   exact .inr (.inl (by omega))
theorem B9{P:Program}{ρ ρk:Ren}(L6:SlLaysZI.n6 P ρ)(L10:SlLaysZI.n10 P ρk)(hs:∀m,AnyZI.SortsIn P ρ Fence.wide m)
 (e9:∀args w,(callFunc (ρ.f 9) args).run P w=.ok (.enter (ρ.f 9) args) w)(eg:∀args w,(callFunc (ρk.f 10) args).run P w=.ok (.enter (ρk.f 10) args) w)(hent:Enters P (ρ.f 6))
 {l l2:Nat}{tm:TypeId}{es:List (MV × MV)}(hne:l≠l2)(he:(es.all fun p=>isK .i64 p.1)=true)(hwf:∀n∈gN es,(Lit.int .i64 n).wf=true)(hl:es.length≤1000000) :
  aA P (ρ.f 6) [.fn (.func (ρk.f 10)) [] [.ptr l 0 0]] ((St.none.set l (.row tm 1 [[.mapv l2]])).set l2 (.mp es)) fun r σ' =>
   (∃ns:List Int,ns.Perm (gN es)∧ns.Pairwise (fun a b=>a≤b)∧r=.lst 1 (ns.map fun n=>[.int .i64 n]) false)∧σ'=(St.none.set l (.row tm 1 [[.mapv l2]])).set l2 (.mp es):=by
 obtain⟨σ0,hσ0⟩:∃σ0:St,(St.none.set l (.row tm 1 [[.mapv l2]])).set l2 (.mp es)=σ0:=⟨_,rfl⟩
 have h2:σ0 l2=some (.mp es):=by rw[←hσ0];exact aJ _ _ _
 have h1:σ0 l=some (.row tm 1 [[.mapv l2]]):=by rw[←hσ0];simp[St.set,hne]
 rw[hσ0]
 refine⟨hent,fun Φ w vs hi hr=>?_⟩
 obtain⟨first,cap,e0,r1,r2⟩:=(hr.2 0 _ rfl).kY
 have hf0:first=#[]:=by have:=r1.1;simp at this;exact this
 subst hf0
 have hcs:cap.size=1:=r2.1
 obtain⟨p,R,hp,hR,hc⟩:=(r2.2 0 _ rfl).fZ
 have hbo:p.bo=0:=hi.fresh.1.2 l p hp
 have hcap:cap=#[.pointer (some ⟨R,0,none⟩)]:=by
  refine Array.ext (by simpa using hcs) fun i q1 q2=>?_
  have hi0:i=0:=by omega
  subst hi0
  have:=hc
  rw[hbo] at this
  simp[Array.getD,q1] at this
  exact this
 have hvs:vs=#[.func (.func (ρk.f 10)) #[] #[.pointer (some ⟨R,0,none⟩)]]:=by
  have hz:=hr.1
  simp at hz
  refine Array.ext (by simpa using hz) fun i q1 q2=>?_
  have hi0:i=0:=by omega
  subst hi0
  have:=e0
  rw[hcap] at this
  simp[Array.getD,q1] at this
  exact this
 subst hvs
 -- the map
 obtain⟨p2,b,D0,hp2,hb2,hown,hperm,hsz⟩:=Lp (H:=Unit) (P:=P) (k:=ρk.t 26) (hi.own l2 _ h2) L10.t26 he hwf (Nat.le_trans hl (by decide))
 -- the box
 obtain⟨p',hp',hpe,hlen,hmax,hx,hmatch⟩:=hi.own l _ h1
 rw[hp] at hp'
 cases hp'
 rw[hR] at hmatch
 obtain⟨c,fz,hheap,_,_,hcell⟩:=hmatch
 obtain⟨_,v,hv,hrel⟩:=hcell 0 _ 0 _ rfl rfl
 obtain⟨p3,R3,hp3,hR3,rfl⟩:=hrel.lY
 rw[hp2] at hp3
 cases hp3
 rw[hb2] at hR3
 cases hR3
 have hRlt:R<w.heap.size:=by
  obtain⟨q,_⟩:=Array.getElem?_eq_some_iff.1 hheap;exact q
 have hcl:w.cell? ⟨R,0,none⟩=some (.map (some b)):=by
  simp only[World.cell?,hheap]
  rw[hbo] at hv
  simpa using hv
 have hseq:=AnyZI.keys_gives (H:=Unit) (ρ:=ρk) L10 Fence.wide 2 trivial rfl (by omega) R b es.length D0 w hRlt hcl hown
 have cS:=AnyZI.sorted_in L6 Fence.wide 5 trivial trivial trivial trivial rfl (by omega) (hs _) e9 (ρk.f 10) _ trivial eg _ (Maps.size D0) (by rw[hsz];exact Nat.le_trans hl (by decide)) (by rw[hsz];omega) w hseq
 refine(callsIn_wide.1 cS).mono ?_
 rintro e w' ⟨v,ss,rfl,hS,hrow,hnil,hb⟩
 obtain⟨i2,s2⟩:=hi.grow (w':=w') hb.os hb.tape hb.output (by simp[drw,DR]) hb.size hb.block
 have hpm:(ss.mergeSort (fun x y=>decide (x≤y))).Perm (gN es):=(List.mergeSort_perm ss _).trans (hS.trans hperm)
 have hpw:(ss.mergeSort (fun x y=>decide (x≤y))).Pairwise (fun a b=>a≤b):=(List.pairwise_mergeSort (le:=fun x y:Int=>decide (x≤y)) (fun a b c=>by simp;omega) (fun a b=>by simp;omega) ss).imp (fun h=>by simpa using h)
 generalize hns:ss.mergeSort (fun x y=>decide (x≤y))=ns at *
 have hnl:ns.length=ss.length:=by rw[←hns];exact List.length_mergeSort ss
 rcases hrow.2 with⟨rfl,hz⟩|⟨g,capn,cur,rfl,hbase,hgb,q1,q2,q3,q4⟩
 ·have hn0:ns=[]:=List.eq_nil_of_length_eq_zero (by omega)
  subst hn0
  exact⟨_,_,σ0,Φ,rfl,.lstn 1 false,i2,s2,⟨[],hpm,hpw,rfl⟩,rfl⟩
 ·obtain⟨i3,s3⟩:=hi.Lx i2 s2 g hbase
  have h0:0<ss.length:=by
   rcases Nat.eq_zero_or_pos ss.length with h|h
   ·have:=hnil.2 (List.eq_nil_of_length_eq_zero h)
    cases this
   ·exact h
  refine⟨_,.lst 1 (ns.map fun n=>[.int .i64 n]) false,σ0,_,rfl,?_,i3,s3,⟨ns,hpm,hpw,rfl⟩,rfl⟩
  have hat:∀i,i<ns.length→w'.cell? ⟨g,i,none⟩=some (.int .i64 (ns.getD i 0)):=fun i hi'=>by
   have e1:(cur.toList.take (ss.length * 1))[i]?=(ns.map encZ)[i]?:=by rw[q4]
   rw[List.getElem?_take,if_pos (by omega),List.getElem?_map,List.getElem?_eq_getElem hi'] at e1
   simp only[World.cell?,hgb]
   simp at e1
   simp[e1,List.getD_eq_getElem?_getD,List.getElem?_eq_getElem hi',encZ]
  have hsn:∀i,i<ns.length→(Φ.oF w' (fun k=>k=g)).snap ⟨g,i,none⟩=some (.int .i64 (ns.getD i 0)):=fun i hi'=>by
   simp only[Phi.oF]
   split
   ·rename_i u hu
    have:=World.block_lt_of_cell? w _ (hi.snap _ _ hu)
    simp only at this
    omega
   ·simp[hat i hi']
  refine Rel.lst (vs:=fun i _=>.int .i64 (ns.getD i 0)) (by simpa using hnl) h0 q1 q2 (fun h=>by cases h) (fun i x hx=>?_) (fun i x j m hx hm=>?_) (fun i x j m hx hm=>?_)
  all_goals
   rw[List.getElem?_map,Option.map_eq_some_iff] at hx
   obtain⟨n,hn,rfl⟩:=hx
  ·rfl
  ·have hin:=(List.getElem?_eq_some_iff.1 hn).1
   have hj:j=0:=by
    have:=(List.getElem?_eq_some_iff.1 hm).1
    simpa using this
   subst hj
   simp at hm
   subst hm
   exact⟨rfl,by simpa using hsn i hin⟩
  ·have hj:j=0:=by
    have:=(List.getElem?_eq_some_iff.1 hm).1
    simpa using this
   subst hj
   simp at hm
   subst hm
   simp[List.getD_eq_getElem?_getD,hn]
   exact .int _ _
theorem MI(m:Nat):AnyZI.SortsIn Tryz.prog iP Fence.wide m :=
 ⟨fun blk off cap ss W hH hblk hsz=>callsIn_wide.2 (AnyM.slices_Sort_int xA blk off cap ss W hH hblk hsz),
  fun p cap W=>callsIn_wide.2 (AnyM.slices_Sort_int_none xA p cap W)⟩
theorem z8{l l2:Nat}{es:List (MV × MV)}(hne:l≠l2)(he:(es.all fun p=>isK .i64 p.1)=true)(hwf:∀n∈gN es,(Lit.int .i64 n).wf=true)(hl:es.length≤1000000) :
  aA Tryz.prog 178 [.fn (.func 202) [] [.ptr l 0 0]] ((St.none.set l (.row 143 1 [[.mapv l2]])).set l2 (.mp es)) fun r σ' =>
   (∃ns:List Int,ns.Perm (gN es)∧ns.Pairwise (fun a b=>a≤b)∧r=.lst 1 (ns.map fun n=>[.int .i64 n]) false)∧σ'=(St.none.set l (.row 143 1 [[.mapv l2]])).set l2 (.mp es) :=
 B9 (ρ:=iP) (ρk:=nJ) AU { F1 with } MI (enters_of Tryz.func201 (by kernel_rfl) rfl) (enters_of Tryz.func202 (by kernel_rfl) rfl) ⟨_,Tryz.func178,rfl,rfl⟩ hne he hwf hl
end
end Go.Proofs.YtaojijkdamfbnaaGreatDoor
