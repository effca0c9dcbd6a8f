/- Parts of the proof, joined; conditions: those that its theorems name. -/
import Derived.Test.YtaojijkdamfbnaaGreatDoorMfc
import Derived.Test.YtaojijkdamfbnaaGreatDoorMfd
import Derived.Test.YtaojijkdamfbnaaGreatDoorMfe
import Derived.Test.YtaojijkdamfbnaaGreatDoorRows
import Derived.KernelRfl
set_option linter.unusedVariables false
set_option linter.unusedSimpArgs false
set_option maxHeartbeats 4000000
namespace Go.Proofs.YtaojijkdamfbnaaGreatDoor
section
theorem td3:td Tryz.prog 3=⟨true,1,8,true,[.int .i64 0],.int .i64⟩:=by kernel_rfl
theorem td4:td Tryz.prog 4=⟨true,1,1,true,[.bool false],.bool⟩:=by kernel_rfl
theorem td5:td Tryz.prog 5=⟨true,1,1,true,[.int .u8 0],.int .u8⟩:=by kernel_rfl
theorem td9:td Tryz.prog 9=⟨true,1,16,true,[.str ⟨#[]⟩],.str⟩:=by kernel_rfl
theorem LP:td Tryz.prog 22=⟨true,1,24,true,[.bC],.slice 42⟩:=by kernel_rfl
theorem M1:td Tryz.prog 23=⟨true,1,24,true,[.bC],.slice 90⟩:=by kernel_rfl
theorem M3:td Tryz.prog 24=⟨true,1,24,true,[.bC],.slice 94⟩:=by kernel_rfl
theorem LQ:td Tryz.prog 26=⟨true,5,88,true,[.int .i64 0,.int .i64 0,.bC,.bC,.bC],.struct [(0,3),(1,3),(2,22),(3,23),(4,24)]⟩:=by kernel_rfl
theorem M4:td Tryz.prog 27=⟨true,1,24,true,[.bC],.slice 84⟩:=by kernel_rfl
theorem Ek:td Tryz.prog 28=⟨true,1,4,true,[.int .u32 0],.int .u32⟩:=by kernel_rfl
theorem LR:td Tryz.prog 30=⟨true,8,128,true,[.int .i64 0,.int .i64 0,.bC,.bC,.bC,.bC,.int .u32 0,.int .i64 0],.struct [(0,26),(5,27),(6,28),(7,3)]⟩:=by kernel_rfl
theorem Ov:td Tryz.prog 33=⟨true,1,8,true,[.nilp],.ptr 92⟩:=by kernel_rfl
theorem Ow:td Tryz.prog 36=⟨true,1,8,true,[.nilp],.ptr 111⟩:=by kernel_rfl
theorem uP:td Tryz.prog 39=⟨true,3,32,true,[.int .i64 0,.int .i64 0,.str ⟨#[]⟩],.struct [(0,3),(1,3),(2,9)]⟩:=by kernel_rfl
theorem El:td Tryz.prog 40=⟨true,24,256,true,[.int .i64 0,.int .i64 0,.str ⟨#[]⟩,.int .i64 0,.int .i64 0,.str ⟨#[]⟩,.int .i64 0,.int .i64 0,.str ⟨#[]⟩,.int .i64 0,.int .i64 0,.str ⟨#[]⟩,.int .i64 0,.int .i64 0,.str ⟨#[]⟩,.int .i64 0,.int .i64 0,.str ⟨#[]⟩,.int .i64 0,.int .i64 0,.str ⟨#[]⟩,.int .i64 0,.int .i64 0,.str ⟨#[]⟩],.array 8 39⟩:=by kernel_rfl
theorem Kb:td Tryz.prog 42=⟨true,27,280,true,[.int .i64 0,.int .i64 0,.int .u32 0,.int .i64 0,.int .i64 0,.str ⟨#[]⟩,.int .i64 0,.int .i64 0,.str ⟨#[]⟩,.int .i64 0,.int .i64 0,.str ⟨#[]⟩,.int .i64 0,.int .i64 0,.str ⟨#[]⟩,.int .i64 0,.int .i64 0,.str ⟨#[]⟩,.int .i64 0,.int .i64 0,.str ⟨#[]⟩,.int .i64 0,.int .i64 0,.str ⟨#[]⟩,.int .i64 0,.int .i64 0,.str ⟨#[]⟩],.struct [(0,3),(1,3),(2,28),(3,40)]⟩:=by kernel_rfl
theorem M5:td Tryz.prog 46=⟨true,1,24,true,[.bC],.slice 3⟩:=by kernel_rfl
theorem Ox:td Tryz.prog 60=⟨true,1,24,true,[.bC],.slice 27⟩:=by kernel_rfl
theorem N6:td Tryz.prog 77=⟨true,26,264,true,[.int .u32 0,.int .u32 0,.int .i64 0,.int .i64 0,.str ⟨#[]⟩,.int .i64 0,.int .i64 0,.str ⟨#[]⟩,.int .i64 0,.int .i64 0,.str ⟨#[]⟩,.int .i64 0,.int .i64 0,.str ⟨#[]⟩,.int .i64 0,.int .i64 0,.str ⟨#[]⟩,.int .i64 0,.int .i64 0,.str ⟨#[]⟩,.int .i64 0,.int .i64 0,.str ⟨#[]⟩,.int .i64 0,.int .i64 0,.str ⟨#[]⟩],.struct [(0,28),(1,28),(2,40)]⟩:=by kernel_rfl
theorem Oy:td Tryz.prog 78=⟨true,1,24,true,[.bC],.slice 194⟩:=by kernel_rfl
theorem Oz:td Tryz.prog 82=⟨true,29,288,true,[.int .i64 0,.int .i64 0,.int .i64 0,.int .u32 0,.int .u32 0,.int .i64 0,.int .i64 0,.str ⟨#[]⟩,.int .i64 0,.int .i64 0,.str ⟨#[]⟩,.int .i64 0,.int .i64 0,.str ⟨#[]⟩,.int .i64 0,.int .i64 0,.str ⟨#[]⟩,.int .i64 0,.int .i64 0,.str ⟨#[]⟩,.int .i64 0,.int .i64 0,.str ⟨#[]⟩,.int .i64 0,.int .i64 0,.str ⟨#[]⟩,.int .i64 0,.int .i64 0,.str ⟨#[]⟩],.struct [(0,3),(1,3),(2,3),(3,77)]⟩:=by kernel_rfl
theorem LS:td Tryz.prog 84=⟨true,5,48,true,[.int .i64 0,.int .i64 0,.int .i64 0,.int .i64 0,.str ⟨#[]⟩],.struct [(0,3),(1,3),(2,39)]⟩:=by kernel_rfl
theorem OA:td Tryz.prog 85=⟨true,1,8,true,[.nilp],.ptr 145⟩:=by kernel_rfl
theorem LU:td Tryz.prog 90=⟨true,3,24,true,[.int .i64 0,.int .i64 0,.int .i64 0],.struct [(0,3),(1,3),(2,3)]⟩:=by kernel_rfl
theorem OB:td Tryz.prog 92=⟨true,3,40,true,[.int .i64 0,.nilp,.bC],.struct [(0,3),(1,85),(2,24)]⟩:=by kernel_rfl
theorem LV:td Tryz.prog 94=⟨true,2,32,true,[.int .i64 0,.bC],.struct [(0,3),(1,46)]⟩:=by kernel_rfl
theorem NR:td Tryz.prog 101=⟨true,1,4,true,[.int .u32 0],.struct [(0,99),(0,28)]⟩:=by kernel_rfl
theorem NS:td Tryz.prog 105=⟨true,2,8,true,[.int .i32 0,.int .u32 0],.struct [(0,98),(0,103)]⟩:=by kernel_rfl
theorem NT:td Tryz.prog 107=⟨true,3,12,true,[.int .u32 0,.int .i32 0,.int .u32 0],.struct [(0,98),(0,101),(1,105)]⟩:=by kernel_rfl
theorem NU:td Tryz.prog 109=⟨true,1,8,true,[.nilfn],.func⟩:=by kernel_rfl
theorem NV:td Tryz.prog 111=⟨true,5,48,true,[.bC,.int .u32 0,.int .i32 0,.int .u32 0,.nilfn],.struct [(0,27),(1,107),(4,109)]⟩:=by kernel_rfl
theorem NW:td Tryz.prog 135=⟨true,3,56,true,[.int .i64 0,.bC,.bC],.struct [(0,3),(1,22),(2,23)]⟩:=by kernel_rfl
theorem NX:td Tryz.prog 137=⟨true,5,88,true,[.int .i64 0,.int .i64 0,.bC,.bC,.bC],.struct [(0,3),(1,135),(4,24)]⟩:=by kernel_rfl
theorem NY:td Tryz.prog 141=⟨true,1,8,true,[.nilfn],.func⟩:=by kernel_rfl
theorem NZ:td Tryz.prog 142=⟨true,7,56,true,[.nilfn,.nilfn,.nilfn,.nilfn,.nilfn,.nilfn,.nilfn],.array 7 141⟩:=by kernel_rfl
theorem Mj:td Tryz.prog 143=⟨true,1,8,true,[.nilm],.map 3 42⟩:=by kernel_rfl
theorem N0:td Tryz.prog 145=⟨true,3,40,true,[.int .i64 0,.nilm,.bC],.struct [(0,3),(1,143),(2,23)]⟩:=by kernel_rfl
theorem N1:td Tryz.prog 149=⟨true,3,3,true,[.bool false,.bool false,.bool false],.struct [(0,4),(1,4),(2,4)]⟩:=by kernel_rfl
theorem N2:td Tryz.prog 177=⟨true,1,8,true,[.int .u64 0],.int .u64⟩:=by kernel_rfl
theorem N3:td Tryz.prog 179=⟨true,1,24,true,[.bC],.slice 39⟩:=by kernel_rfl
theorem N4:td Tryz.prog 194=⟨true,2,16,true,[.int .i64 0,.int .i64 0],.struct [(0,3),(1,3)]⟩:=by kernel_rfl
theorem N5:td Tryz.prog 228=⟨true,1,24,true,[.bC],.slice 5⟩:=by kernel_rfl
theorem Mk:td Tryz.prog 230=⟨true,32,32,true,List.replicate 32 (.int .u8 0),.array 32 5⟩:=by kernel_rfl
theorem Nw:dJ Tryz.prog 39=true:=by kernel_rfl
theorem mixed:Tryz.prog.follows .mixedOrders=true:=by kernel_rfl
theorem wD{id:Nat}{l:List Oper}{f:FR}{σ:St}{Q:MQ}(hchk:(chk l.toArray&&l.all fun o=>lA o.op)=true)(h:R (l9 Tryz.prog (fun _ _=>none) (@OfNat.ofNat (Array Oper) (nat_lit 0) (@_root_.id (OfNat (Array Oper) (nat_lit 0)) (OfNat.mk (l.toArray)))) (Q .normal) (@OfNat.ofNat (List Oper) (nat_lit 0) (@_root_.id (OfNat (List Oper) (nat_lit 0)) (OfNat.mk l))) f σ)):R (qZ Tryz.prog id (@OfNat.ofNat (List Oper) (nat_lit 0) (@_root_.id (OfNat (List Oper) (nat_lit 0)) (OfNat.mk l))) f σ Q):=Be mixed hchk h
attribute [go_sem] td3 td4 td5 td9 LP M1 M3 LQ M4 Ek LR Ov Ow uP El Kb M5 Ox N6 Oy Oz LS OA LU OB LV NR NS NT NU NV NW NX NY NZ Mj N0 N1 N2 N3 N4 N5 Mk Nw
end

section
theorem mI(op:Int):aA Tryz.prog 103 [.int .i64 op] St.none (fun r _=>r=.int .i64 (parts op)):=by
 refine(aA.body 11 [.tmp 2] Tryz.func103 rfl rfl rfl rfl ?_)
 repeat' (first|(with_reducible first|(refine wN fun nl hnl=>?_;revert hnl;(repeat refine wS fun _ _=>?_);intro hnl)|refine wD (by decide +kernel) ?_|refine wI (fun h=>?_) fun h=>?_|refine wF (fun h=>?_) fun h=>?_|refine wG (fun h=>?_) fun h=>?_|refine wH (fun h=>?_) fun h=>?_|((first|refine aR (fun h=>?_) fun h=>?_|refine aO (fun h=>?_) fun h=>?_)<;>simp only[h]))|simp(maxSteps:=4000000) (disch:=first|decide|assumption|omega|(simp only[wL];omega)) only[go_sem,simprocAttr,Tryz.f103])
 all_goals simp[parts, *]
theorem pJ(kd n:Int)(s:ByteArray):aA Tryz.prog 102 [.agg [.int .i64 kd,.int .i64 n,.str s]] St.none (fun r _=>r=.bool (dU ⟨kd,n,s⟩)):=by
 refine(aA.body 41 [.tmp 2] Tryz.func102 rfl rfl rfl rfl ?_)
 repeat' (first|(with_reducible first|(refine wN fun nl hnl=>?_;revert hnl;(repeat refine wS fun _ _=>?_);intro hnl)|refine wD (by decide +kernel) ?_|refine wI (fun h=>?_) fun h=>?_|refine wF (fun h=>?_) fun h=>?_|refine wG (fun h=>?_) fun h=>?_|refine wH (fun h=>?_) fun h=>?_|((first|refine aR (fun h=>?_) fun h=>?_|refine aO (fun h=>?_) fun h=>?_)<;>simp only[h]))|simp(maxSteps:=4000000) (disch:=first|decide|assumption|omega|(simp only[wL];omega)) only[go_sem,simprocAttr,Tryz.f102])
 all_goals simp[dU,va0, *]
 all_goals omega
set_option maxHeartbeats 2000000 in
theorem Ef (x:ND):aA Tryz.prog 60 [.agg x.c] St.none (fun r _=>r=.bool (eH x)):=by
 refine(aA.body 86 [.tmp 2] Tryz.func60 rfl rfl rfl rfl ?_)
 obtain⟨op,n,kd,vn,s⟩:=x
 repeat' (first|(with_reducible refine aK (pJ _ _ _) ?_)|(with_reducible first|(refine wN fun nl hnl=>?_;revert hnl;(repeat refine wS fun _ _=>?_);intro hnl)|refine wD (by decide +kernel) ?_|refine wI (fun h=>?_) fun h=>?_|refine wF (fun h=>?_) fun h=>?_|refine wG (fun h=>?_) fun h=>?_|refine wH (fun h=>?_) fun h=>?_|((first|refine aR (fun h=>?_) fun h=>?_|refine aO (fun h=>?_) fun h=>?_)<;>simp only[h]))|simp(maxSteps:=4000000) (disch:=first|decide|assumption|omega|(simp only[wL];omega)) only[go_sem,simprocAttr,Tryz.f60])
 all_goals first
  | (simp[eH,va0, *];done)
  | (simp[eH,va0, *];omega)
  | (simp[eH,va0, *];rintro rfl rfl rfl;rename_i h;revert h;simp[dU,va0])
theorem wP{l:List ND}{n j:Nat}(h:j<l.length):gI (n+1) (l.drop j)=(gI (n+parts (l.getD j nd0).op) (l.drop (j+1))).map (·+1):=by
 rw[List.drop_eq_getElem_cons h]
 have:l.getD j nd0=l[j]:=by simp[List.getD,h]
 rw[this]
 rfl
theorem mY(l:List ND)(hl:l.length≤1000000)(t:Bool)(i:Int):aA Tryz.prog 61 [.lst 5 (l.map ND.c) t,.int .i64 i] St.none (fun r _=>r=.int .i64 (fQ l i)):=by
 refine(aA.body 30 [.tmp 4] Tryz.func61 rfl rfl rfl rfl ?_)
 by_cases hi:i<0
 ·repeat' (first|(with_reducible first|(refine wN fun nl hnl=>?_;revert hnl;(repeat refine wS fun _ _=>?_);intro hnl)|refine wD (by decide +kernel) ?_|refine wI (fun h=>?_) fun h=>?_|refine wF (fun h=>?_) fun h=>?_|refine wG (fun h=>?_) fun h=>?_|refine wH (fun h=>?_) fun h=>?_|((first|refine aR (fun h=>?_) fun h=>?_|refine aO (fun h=>?_) fun h=>?_)<;>simp only[h]))|simp(maxSteps:=4000000) (disch:=first|decide|assumption|omega|(simp only[wL];omega)) only[go_sem,simprocAttr,Tryz.f61])
  simp[fQ,hi]
 ·obtain⟨i,rfl⟩:∃k:Nat,i=k:=⟨i.toNat,by omega⟩
  repeat' (first|(with_reducible first|(refine wN fun nl hnl=>?_;revert hnl;(repeat refine wS fun _ _=>?_);intro hnl)|refine wD (by decide +kernel) ?_|refine wI (fun h=>?_) fun h=>?_|refine wF (fun h=>?_) fun h=>?_|refine wG (fun h=>?_) fun h=>?_|refine wH (fun h=>?_) fun h=>?_|((first|refine aR (fun h=>?_) fun h=>?_|refine aO (fun h=>?_) fun h=>?_)<;>simp only[h]))|simp(maxSteps:=4000000) (disch:=first|decide|assumption|omega|(simp only[wL];omega)) only[go_sem,simprocAttr,Tryz.f61])
  refine aH (α:=Nat × Nat) (fun a=>⟨30,[(5,.int .i64 (a.2:Int)),(0,.lst 5 (l.map ND.c) t),(1,.int .i64 (a.1:Int))],[]⟩) (fun _=>St.none)
   (fun a=>i≤a.1∧a.1≤max i l.length∧a.2≤1+a.1∧gI 1 (l.drop i)=(gI a.2 (l.drop a.1)).map (·+(a.1 - i))) (fun a=>l.length - a.1) (.of (.less ?_ (St.le_refl _)) ⟨(i,1),rfl,rfl,?_⟩) ?_
  ·simp(maxSteps:=4000000) (disch:=first|decide|assumption|omega|(simp only[wL];omega)) only[go_sem,simprocAttr,aC,aB]
   all_goals rfl
  ·simp
   omega
  ·rintro⟨j,n⟩ ⟨h1,h2,h3,h4⟩
   simp only at h1 h2 h3 h4 ⊢
   by_cases hj:j<l.length
   ·rcases Nat.eq_zero_or_pos n with hn|hn
    ·subst hn
     repeat' (first|(with_reducible first|(refine wN fun nl hnl=>?_;revert hnl;(repeat refine wS fun _ _=>?_);intro hnl)|refine wD (by decide +kernel) ?_|refine wI (fun h=>?_) fun h=>?_|refine wF (fun h=>?_) fun h=>?_|refine wG (fun h=>?_) fun h=>?_|refine wH (fun h=>?_) fun h=>?_|((first|refine aR (fun h=>?_) fun h=>?_|refine aO (fun h=>?_) fun h=>?_)<;>simp only[h]))|simp(maxSteps:=4000000) (disch:=first|decide|assumption|omega|(simp only[wL];omega)) only[go_sem,simprocAttr,bE nd0,ND.c])
     simp only[fQ,h4,gI,Option.map_some,Int.toNat_natCast]
     rw[if_neg hi]
     simp only[MV.int.injEq,true_and]
     omega
    ·obtain⟨m,rfl⟩:∃m,n=m+1:=⟨n - 1,by omega⟩
     have hp:=iI (l.getD j nd0).op
     repeat' (first|(with_reducible refine aK (mI _) ?_)|(with_reducible first|(refine wN fun nl hnl=>?_;revert hnl;(repeat refine wS fun _ _=>?_);intro hnl)|refine wD (by decide +kernel) ?_|refine wI (fun h=>?_) fun h=>?_|refine wF (fun h=>?_) fun h=>?_|refine wG (fun h=>?_) fun h=>?_|refine wH (fun h=>?_) fun h=>?_|((first|refine aR (fun h=>?_) fun h=>?_|refine aO (fun h=>?_) fun h=>?_)<;>simp only[h]))|simp(maxSteps:=4000000) (disch:=first|decide|assumption|omega|(simp only[wL];omega)) only[go_sem,simprocAttr,bE nd0,ND.c])
     refine .of (.less (l1:=[(5,.int .i64 ((m+parts (l.getD j nd0).op:Nat):Int)),(0,.lst 5 (l.map ND.c) t),(1,.int .i64 ((j+1:Nat):Int))]) ?_ (St.le_refl _)) ⟨(j+1,m+parts (l.getD j nd0).op),rfl,rfl,⟨by simp only;omega,by simp only;omega,by simp only;omega,?_⟩,by simp only;omega⟩
     ·simp(maxSteps:=4000000) (disch:=first|decide|assumption|omega|(simp only[wL];omega)) only[go_sem,simprocAttr,aC,aB]
      all_goals omega
     ·rw[h4,wP hj]
      simp only[Option.map_map]
      congr 1
      funext k
      simp only[Function.comp]
      omega
   ·have hd:l.drop j=[]:=List.drop_eq_nil_of_le (by omega)
    rw[hd] at h4
    rcases Nat.eq_zero_or_pos n with hn|hn
    ·subst hn
     repeat' (first|(with_reducible first|(refine wN fun nl hnl=>?_;revert hnl;(repeat refine wS fun _ _=>?_);intro hnl)|refine wD (by decide +kernel) ?_|refine wI (fun h=>?_) fun h=>?_|refine wF (fun h=>?_) fun h=>?_|refine wG (fun h=>?_) fun h=>?_|refine wH (fun h=>?_) fun h=>?_|((first|refine aR (fun h=>?_) fun h=>?_|refine aO (fun h=>?_) fun h=>?_)<;>simp only[h]))|simp(maxSteps:=4000000) (disch:=first|decide|assumption|omega|(simp only[wL];omega)) only[go_sem,simprocAttr,bE nd0,ND.c])
     simp only[fQ,h4,gI,Option.map_some,Int.toNat_natCast]
     rw[if_neg hi]
     simp only[MV.int.injEq,true_and]
     omega
    ·obtain⟨m,rfl⟩:∃m,n=m+1:=⟨n - 1,by omega⟩
     repeat' (first|(with_reducible first|(refine wN fun nl hnl=>?_;revert hnl;(repeat refine wS fun _ _=>?_);intro hnl)|refine wD (by decide +kernel) ?_|refine wI (fun h=>?_) fun h=>?_|refine wF (fun h=>?_) fun h=>?_|refine wG (fun h=>?_) fun h=>?_|refine wH (fun h=>?_) fun h=>?_|((first|refine aR (fun h=>?_) fun h=>?_|refine aO (fun h=>?_) fun h=>?_)<;>simp only[h]))|simp(maxSteps:=4000000) (disch:=first|decide|assumption|omega|(simp only[wL];omega)) only[go_sem,simprocAttr,bE nd0,ND.c])
     simp only[fQ,h4,gI,Option.map_none,Int.toNat_natCast]
     rw[if_neg hi]
end

section
structure C2 (Φ0:Phi) (σ0:St) (n0:Nat) (Φ:Phi) (σ:St):Prop where
 le:Φ0.le Φ
 snapn:∀a v,Φ.snap a=some v→Φ0.snap a=some v∨n0≤a.block∨aQ Φ0 σ0 a.block
 ownd:∀R,aQ Φ σ R→aQ Φ0 σ0 R∨n0≤R
structure uW (C:YC) (Φ0:Phi) (σ0:St) (n0:Nat) (So0:YS) (tmps:Array Value) (fc:FR) (l:Nat) (st:Loop) (σ:St) (S:YS) (Φ:Phi) (So:YS) (t:Option Nat):Prop where
 inv:gN C Φ σ S.w So t
 frame:cF Φ tmps fc
 step:C2 Φ0 σ0 n0 Φ σ
 wr:∀k,S.wr k↔(aQ Φ σ k∨k=l∨So.wr k)
 sn:∀a,S.sn a=(match Φ.snap a with|some v=>some v|none=>So.sn a)
 lrec:S.w.heap[l]?=some (.loop st)
 size:n0≤S.w.heap.size
 base:Φ.base≤S.w.heap.size
 owr:∀k,So.wr k→So0.wr k∨n0≤k
 osn:∀a v,So.sn a=some v→So0.sn a=some v∨So0.wr a.block∨n0≤a.block∨Φ0.snap a=some v∨aQ Φ0 σ0 a.block
section
variable {C:YC} {Φ0 Φ:Phi} {σ0 σ:St} {n0:Nat} {So0:YS} {tmps:Array Value} {fc:FR} {l:Nat} {st:Loop} {S:YS} {So:YS} {t:Option Nat}
theorem uW.Fl(h:uW C Φ0 σ0 n0 So0 tmps fc l st σ S Φ So t){a:Addr}{v:Value}(q:Φ.snap a=some v):S.sn a=some v:=by rw[h.sn a,q]
theorem uW.NQ(h:uW C Φ0 σ0 n0 So0 tmps fc l st σ S Φ So t){a:Addr}{v:Value}(q:So.sn a=some v):S.sn a=some v:=by
 rw[h.sn a]
 cases e:Φ.snap a with
 | none=>exact q
 | some u =>
  have h1:=h.inv.inv.snap a u e
  have h2:=h.inv.apt.agree.sn a v q
  rw[h1] at h2
  simpa using h2
theorem uW.J4(h:uW C Φ0 σ0 n0 So0 tmps fc l st σ S Φ So t){a:Addr}{v:Value}(q:S.sn a=some v):Φ.snap a=some v∨So.sn a=some v:=by
 rw[h.sn a] at q
 cases e:Φ.snap a with
 | none=>rw[e] at q;exact .inr q
 | some u=>rw[e] at q;exact .inl q
theorem uW.agree(h:uW C Φ0 σ0 n0 So0 tmps fc l st σ S Φ So t):jD S S.w :=
 ⟨fun _ _=>rfl,fun k hk=>by
  rcases (h.wr k).1 hk with q|rfl|q
  ·obtain⟨l',o,p,h1,h2,h3⟩:=q
   obtain⟨p',e,hlt⟩:=(h.inv.inv.own l' o h1).place
   rw[h2] at e;cases e
   exact hlt k h3
  ·exact(Array.getElem?_eq_some_iff.1 h.lrec).1
  ·exact Nat.lt_of_lt_of_le (h.inv.apt.agree.lt k q) h.inv.apt.agree.size,(fun k hk x e=>by
  rcases (h.wr k).1 hk with q|rfl|q
  ·exact h.inv.inv.mark e q
  ·rw[h.lrec] at e;cases e
  ·exact h.inv.apt.agree.nomark k q x ((h.inv.apt.agree.same k q).symm.trans e)),fun a v q=>by
  rcases h.J4 q with q|q
  ·exact h.inv.inv.snap a v q
  ·exact h.inv.apt.agree.sn a v q,Nat.le_refl _,rfl,rfl,rfl,Nat.le_refl _⟩
theorem uW.at(h:uW C Φ0 σ0 n0 So0 tmps fc l st σ S Φ So t)(k1:∀a v,Φ0.snap a=some v→C.Φ0.snap a=some v∨C.n0≤a.block∨aQ C.Φ0 C.σ0 a.block)(k2:∀R,aQ Φ0 σ0 R→aQ C.Φ0 C.σ0 R∨C.n0≤R)(k3:C.n0≤n0)
 {w:World}(ha:jD S w){Ψ:Phi}(ho:∀m,Ψ.obj m=none)
 (hs:∀a v,Ψ.snap a=some v→w.cell? a=some v∧¬S.wr a.block∧(Φ0.snap a=some v∨n0≤a.block∨aQ Φ0 σ0 a.block)) :
  ∃Φ',gN C Φ' σ w So t∧cF Φ' tmps fc∧C2 Φ0 σ0 n0 Φ' σ∧(∀k,aQ Φ' σ k↔aQ Φ σ k)∧(∀a v,Φ'.snap a=some v→Φ.snap a=some v∨Ψ.snap a=some v)∧(∀v m,Rel Ψ v m→Rel Φ' v m)∧w.heap[l]?=some (.loop st)∧Φ'.base≤w.heap.size:=by
 obtain⟨Φ',hΦ⟩:∃Φ':Phi,Φ'={ Φ with snap:=fun a=>match Φ.snap a with|some v=>some v|none=>Ψ.snap a }:=⟨_,rfl⟩
 have hle:Φ.le Φ':=by subst hΦ;exact⟨fun a v q=>by simp[q],fun _ _ q=>q,rfl⟩
 have hobj:Φ'.obj=Φ.obj:=by subst hΦ;rfl
 have hb:Φ'.base=Φ.base:=by subst hΦ;rfl
 have hsn:∀a v,Φ'.snap a=some v→Φ.snap a=some v∨Ψ.snap a=some v:=fun a v q=>by
  subst hΦ
  simp only at q
  cases e:Φ.snap a with
  | none=>rw[e] at q;exact .inr q
  | some u=>rw[e] at q;exact .inl q
 have hwr:∀k,aQ Φ σ k→w.heap[k]?=S.w.heap[k]?:=fun k hk=>ha.same k ((h.wr k).2 (.inl hk))
 have hown:∀k,aQ Φ' σ k↔aQ Φ σ k:=fun k=>by unfold aQ;rw[hobj]
 have hinv:Inv Φ' w σ:=by
  refine⟨fun l' o hl=>(h.inv.inv.own l' o hl).mono hle fun p R h1 h2=>hwr R ⟨l',o,p,hl,h1,h2⟩,fun a b o o' p p' R h1 h2 h3 h4=>?_,fun a v q=>?_,fun l' o p R a v h1 h2 h3 q=>?_,?_⟩
  ·rw[hobj] at h3 h4;exact h.inv.inv.inj a b o o' p p' R h1 h2 h3 h4
  ·rcases hsn a v q with q|q
   ·exact ha.sn a v (h.Fl q)
   ·exact(hs a v q).1
  ·rw[hobj] at h2
   rcases hsn a v q with q|q
   ·exact h.inv.inv.apart l' o p R a v h1 h2 h3 q
   ·intro e
    exact(hs a v q).2.1 ((h.wr _).2 (.inl ⟨l',o,p,h1,h2,e ▸ h3⟩))
  ·obtain⟨n,hn⟩:=h.inv.inv.fresh.1.1
   exact⟨⟨⟨n,fun k hk=>by rw[hobj];exact hn k hk⟩,fun k p hk=>h.inv.inv.fresh.1.2 k p (by rw[←hobj];exact hk)⟩,fun g i v q=>hle.snap _ _ (h.inv.inv.fresh.2.1 g i v q),h.inv.inv.fresh.2.2.mono hle.snap⟩
 have hag:=h.inv.apt.agree
 have hapt:Apt Φ' σ So w:=by
  refine⟨⟨fun k hk=>(ha.same k ((h.wr k).2 (.inr (.inr hk)))).trans (hag.same k hk),hag.lt,hag.nomark,fun a v q=>ha.sn a v (h.NQ q),Nat.le_trans hag.size ha.size,ha.os.trans hag.os,ha.tape.trans hag.tape,ha.output.trans hag.output,Nat.le_trans hag.drawn ha.drawn⟩,fun k hk q=>h.inv.apt.own k hk ((hown k).1 q),fun a v q ho=>h.inv.apt.snown a v q ((hown _).1 ho),fun a v q hk=>?_⟩
  rcases hsn a v q with q|q
  ·exact h.inv.apt.snap a v q hk
  ·exact(hs a v q).2.1 ((h.wr _).2 (.inr (.inr hk)))
 refine⟨Φ',⟨hinv,hapt,fun a v q=>?_,fun R hR=>h.inv.ownd R ((hown R).1 hR),Nat.le_trans h.inv.size ha.size,h.inv.st⟩,h.frame.mono hle,⟨h.step.le.trans hle,fun a v q=>?_,fun R hR=>h.step.ownd R ((hown R).1 hR)⟩,hown,hsn,fun v m r=>?_,?_,?_⟩
 ·rcases hsn a v q with q|q
  ·exact h.inv.snapn a v q
  ·rcases (hs a v q).2.2 with q|q|q
   ·exact k1 a v q
   ·exact .inr (.inl (Nat.le_trans k3 q))
   ·rcases k2 _ q with q|q
    ·exact .inr (.inr q)
    ·exact .inr (.inl q)
 ·rcases hsn a v q with q|q
  ·exact h.step.snapn a v q
  ·exact(hs a v q).2.2
 ·refine r.Br (fun a u q=>?_) (fun l' p q=>by rw[ho l'] at q;cases q)
  have h1:=(hs a u q).1
  subst hΦ
  simp only
  cases e:Φ.snap a with
  | none=>exact q
  | some u' =>
   have h2:=ha.sn a u' (h.Fl e)
   rw[h1] at h2
   simpa using h2.symm
 ·rw[ha.same l ((h.wr l).2 (.inr (.inl rfl)))];exact h.lrec
 ·rw[hb];exact Nat.le_trans h.base ha.size
end
theorem C2.step{Φ0 Φ Φ':Phi}{σ0 σ σ':St}{n0:Nat}{w w':World}{S S':YS}(h:C2 Φ0 σ0 n0 Φ σ)(hn:n0≤w.heap.size)(k:cT Φ σ w S Φ' σ' w' S'):C2 Φ0 σ0 n0 Φ' σ' where
 le:=h.le.trans k.le
 snapn:=fun a v hv=>by
  rcases k.snapn a v hv with q|q|q
  ·exact h.snapn a v q
  ·exact .inr (.inl (Nat.le_trans hn q))
  ·rcases h.ownd _ q with q|q
   ·exact .inr (.inr q)
   ·exact .inr (.inl q)
 ownd:=fun R hR=>by
  rcases k.ownd R hR with q|q
  ·exact h.ownd R q
  ·exact .inr (Nat.le_trans hn q)
theorem gN.putObj{C:YC}{Φ:Phi}{σ:St}{w:World}{S:YS}{t:Option Nat}(h:gN C Φ σ w S t){l:Nat}{r:Loop}(o':Obj)(hl:w.heap[l]?=some (.loop r))(hw:¬S.wr l):gN C Φ σ (w.putObj l o') S t:=by
 have hne:∀k,S.wr k→k≠l:=fun k hk e=>hw (e ▸ hk)
 refine⟨h.inv.putObj _ hl (fun _ _ _ e=>by cases e) (fun _ _ e=>by cases e),⟨⟨fun k hk=>(World.putObj_heap_other (hne k hk)).trans (h.apt.agree.same k hk),h.apt.agree.lt,h.apt.agree.nomark,fun a v q=>?_,by rw[World.putObj_size];exact h.apt.agree.size,h.apt.agree.os,h.apt.agree.tape,h.apt.agree.output,h.apt.agree.drawn⟩,h.apt.own,h.apt.snown,h.apt.snap⟩,h.snapn,h.ownd,by rw[World.putObj_size];exact h.size,h.st⟩
 have hc:=h.apt.agree.sn a v q
 rw[←hc]
 refine World.dI (World.putObj_heap_other fun e=>?_)
 rw[World.cell?,e,hl] at hc
 simp at hc
end

section
def T.depth:T→Nat
 | .leaf _=>1
 | .one _ a=>1+a.depth
 | .two _ a b=>1+max a.depth b.depth
def Ce:List Nat→List Nat
 | []=>[]
 | k::s=>shut ((k - 1)::s)
theorem qN(s:List Nat):shut (0::s)=Ce s:=by
 cases s with
 | nil=>rw[shut];rfl
 | cons k s=>rw[shut];rfl
theorem qM(n:Nat)(s:List Nat):shut ((n+1)::s)=(n+1)::s:=by rw[shut]
theorem rU:∀{t:T},t.ok→∀(d:Nat) (s:List Nat) (l:List ND),dp d s (t.fl++l)=dp (max d (s.length+t.depth)) (Ce s) l
 | .leaf x,h,d,s,l=>by
  simp only[T.ok] at h
  rw[T.fl,List.cons_append,List.nil_append,dp,h,qN];rfl
 | .one x a,h,d,s,l=>by
  rw[T.fl,List.cons_append,dp,h.1,qM,rU h.2,Ce,show 0+1 - 1=0 from rfl,qN]
  congr 1
  simp only[List.length_cons,T.depth];omega
 | .two x a b,h,d,s,l=>by
  rw[T.fl,List.cons_append,dp,h.1,qM,List.append_assoc,rU h.2.1,Ce,show 1+1 - 1=0+1 from rfl,qM,rU h.2.2,Ce,show 0+1 - 1=0 from rfl,qN]
  congr 1
  simp only[List.length_cons,T.depth];omega
theorem CV{t:T}(h:t.ok)(he:fQ t.fl 0=(t.fl.length:Int)):fT t.fl=t.depth:=by
 have:=rU h 0 [] []
 rw[List.append_nil] at this
 rw[fT,if_neg,this]
 ·simp[dp]
 ·rintro(h1|h1)
  ·have:=t.yL;rw[h1] at this;simp at this
  ·exact h1 he
end
end Go.Proofs.YtaojijkdamfbnaaGreatDoor
