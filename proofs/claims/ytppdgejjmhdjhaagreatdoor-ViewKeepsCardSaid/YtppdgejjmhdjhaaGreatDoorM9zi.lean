/- Parts of the proof; conditions: as its theorems name them. -/
import Derived.Test.YtppdgejjmhdjhaaGreatDoorM9zc
set_option linter.unusedVariables false
set_option linter.unusedSimpArgs false
set_option maxHeartbeats 8000000
set_option maxRecDepth 100000
namespace Go.Proofs.YtppdgejjmhdjhaaGreatDoor
section
theorem RI(l:List TU)(hl:l.length≤1000000)(f n c:Int)(tt:Bool):aA Tryz.prog 53 [.lst 31 (l.map TU.c) tt,.int .i64 f,.int .i64 n,.int .i64 c] St.none (fun r _=>r=.lst 31 ((upS l f n c).map TU.c) false):=by
 refine aA.seen (mB 51 [.tmp 8] Tryz.func53 ?_)
 unfold upS
 obtain⟨P,hP⟩:∃P:TU→Bool,(fun t:TU=>decide (f<t.sq∧t.sq≤n∧t.id≤c))=P:=⟨_,rfl⟩
 have hPx:∀t:TU,P t=decide (f<t.sq∧t.sq≤n∧t.id≤c):=fun t=>by rw[←hP]
 rw[hP]
 clear hP
 have hml:(l.map TU.c).length=l.length:=List.length_map _
 repeat' first|(refine wM ?_;(first|(have _:=nl1)|(intro nl1));intros)|refine wZ1 @Tryz.f53.eq_1 ?_|fail
 refine aE (α:=Nat × Nat × List (List MV)) (fun s=>⟨51,[(10,.int .i64 (s.1:Int)),(9,.vec 31 s.2.1 0 ((l.take s.1).filter P).length),(0,.lst 31 (l.map TU.c) tt),(1,.int .i64 f),(2,.int .i64 n),(3,.int .i64 c)],[]⟩)
  (fun s=>St.none.set s.2.1 (.row 128 31 (((l.take s.1).filter P).map TU.c++s.2.2))) (fun s=>s.1≤l.length) (fun s=>l.length - s.1) ?_ ?_
 ·refine .of (.less ?_ (St.le_refl _)) ⟨(0,nl1,[]),rfl,by simp,Nat.zero_le _⟩
  exact wW
 ·rintro⟨i,q,ex⟩ hi
  simp only at hi ⊢
  by_cases hlt:i<l.length
  ·obtain⟨x,hx⟩:=bW l hlt
   have hat:=bF (f:=TU.c) hx
   have hsn:=pN (p:=P) hx
   rw[hPx] at hsn
   have hfl:((l.take i).filter P).length≤i:=Nat.le_trans (List.length_filter_le _ _) (by rw[List.length_take];omega)
   obtain⟨L,hL⟩:∃L,(l.take i).filter P=L:=⟨_,rfl⟩
   rw[hL] at hsn hfl ⊢
   have htk:(L.map TU.c++ex).take L.length=L.map TU.c:=mZ
   have hdr:(L.map TU.c++ex).drop (L.length+1)=ex.drop 1:=nZ
   have hLl:(L.map TU.c).length=L.length:=List.length_map _
   by_cases h0:f<x.sq∧x.sq≤n∧x.id≤c
   ·obtain⟨g1,g2,g3⟩:=h0
    rw[decide_eq_true ⟨g1,g2,g3⟩,if_pos rfl] at hsn
    have hnm:(L++[x]).map TU.c=L.map TU.c++[x.c]:=List.map_append
    repeat' first|(refine wM ?_;(first|(have _:=nl3)|(have _:=nl2;intro nl3)|(intro nl2));intros)|(refine wY ?_ ?_<;>intro h)|refine wZ6 @FXs @hat @hml @hLl @htk @hdr ?_|fail
    all_goals (try (exfalso;omega))
    ·obtain rfl:ex=[]:=List.eq_nil_of_length_eq_zero oM
     clear h
     refine .of (.less ?_ (σ1:=St.none.set nl3 (.row 128 31 ((L++[x]).map TU.c++[]))) ?_) ⟨(i+1,nl3,[]),rfl,by simp only[hsn],by simp only;omega,by simp only;omega⟩
     ·simp only[hsn,List.length_append,List.length_singleton]
      exact wW
     ·rw[hnm]
      exact St.aB (St.none_le _) sS
    ·clear h
     refine .of (.less ?_ (σ1:=St.none.set nl3 (.row 128 31 ((L++[x]).map TU.c++ex.drop 1))) ?_) ⟨(i+1,nl3,ex.drop 1),rfl,by simp only[hsn],by simp only;omega,by simp only;omega⟩
     ·simp only[hsn,List.length_append,List.length_singleton]
      exact wW
     ·rw[hnm]
      exact St.aB (St.none_le _) sS
   ·rw[decide_eq_false h0,if_neg (by simp),List.append_nil] at hsn
    have h0':(f<x.sq∧x.sq≤n∧¬x.id≤c)∨(f<x.sq∧¬x.sq≤n)∨¬f<x.sq:=by
     by_cases a1:f<x.sq
     ·by_cases a2:x.sq≤n
      ·exact .inl ⟨a1,a2,fun a3=>h0 ⟨a1,a2,a3⟩⟩
      ·exact .inr (.inl ⟨a1,a2⟩)
     ·exact .inr (.inr a1)
    clear h0
    rcases h0' with⟨g1,g2,g3⟩|⟨g1,g2⟩|g1
    all_goals
     repeat' first|refine wZ3 @FXs @hat @hml ?_|fail
     all_goals (try (exfalso;omega))
     all_goals
      refine .of (.less ?_ (σ1:=St.none.set q (.row 128 31 (L.map TU.c++ex))) (St.aB (St.none_le _) sS)) ⟨(i+1,q,ex),rfl,by simp only[hsn],by simp only;omega,by simp only;omega⟩
      simp only[hsn]
      exact wW
  ·obtain rfl:i=l.length:=by omega
   rw[List.take_length]
   repeat' first|refine wZ0 ?_|fail
   all_goals exact cX (aD _ _ _) (by rw[List.length_map])
theorem Oi(l:List TU)(hl:l.length≤1000000)(f now cur page:Int)(hT:∀t,t∈l→TOk t)(hq:∀t,t∈l→1≤t.sq∧t.sq≤1099511627776)(tt:Bool) :
  aA Tryz.prog 103 [.lst 31 (l.map TU.c) tt,.int .i64 f,.int .i64 now,.int .i64 cur,.int .i64 page] St.none (fun r _=>r=.tup [.lst 28 ((tN l f now cur page).1.map IT.k) false,.int .i64 (tN l f now cur page).2]):=by
 refine aA.seen (mB 57 [.tmp 10,.tmp 11] Tryz.func103 ?_)
 have hs:=RI l hl f now cur tt
 have hAl:=EF l f now cur
 have hAi:∀t,t∈upS l f now cur→TOk t:=fun t h=>hT t (EH.1 h).1
 have hAq:∀t,t∈upS l f now cur→1≤t.sq∧t.sq≤1099511627776:=fun t h=>hq t (EH.1 h).1
 unfold tN
 obtain⟨A,hA⟩:∃A,upS l f now cur=A:=⟨_,rfl⟩
 rw[hA] at hs hAl hAi hAq ⊢
 have hmx:(if page<0 then 0 else page)=(pgN page:Int):=by unfold pgN;split<;>omega
 have hmx':(if 0 > page then 0 else page)=(pgN page:Int):=hmx
 obtain⟨pg,hpg⟩:∃n,pgN page=n:=⟨_,rfl⟩
 rw[hpg] at hmx hmx' ⊢
 have hmA:(A.map TU.c).length=A.length:=List.length_map _
 have hn:=CP A oM hAi false
 have hmI:∀Z:List IT,(Z.map IT.k).length=Z.length:=fun Z=>List.length_map _
 by_cases hall:(lW A).length≤pg
 ·have hfit:mU A pg A.length=A.length:=by
   cases h:A.length with
   | zero=>rfl
   | succ n=>rw[qT,←h,List.take_length,if_pos hall]
  have hz:zM A now (mU A pg A.length)=(lW A,now):=by unfold zM;rw[hfit,List.take_length,if_pos rfl]
  rw[hz]
  obtain⟨Z,hZ⟩:∃Z,lW A=Z:=⟨_,rfl⟩
  rw[hZ] at hn hall ⊢
  repeat' first|(with_reducible first|refine up hs ?_|refine up hn ?_)|refine wZ4 @Tryz.f103.eq_1 @hmx @hmx' @hmI ?_|fail
  all_goals first|exact .same _|(exfalso;omega)
 ·have hA0:A.length≠0:=fun h=>hall (by rw[List.eq_nil_of_length_eq_zero h];simp[lW,eQ])
  have hst:mU A pg A.length=mU A pg (A.length - 1):=by
   obtain⟨n,hn⟩:∃n,A.length=n+1:=⟨A.length - 1,by omega⟩
   rw[hn,qT,←hn,List.take_length,if_neg hall,hn];rfl
  unfold zM
  rw[hst]
  obtain⟨Z,hZ⟩:∃Z,lW A=Z:=⟨_,rfl⟩
  rw[hZ] at hn hall
  repeat' first|(with_reducible first|refine up hs ?_|refine up hn ?_)|refine wZ5 @Tryz.f103.eq_1 @hmx @hmx' @hmI @hmA ?_|fail
  all_goals (try (exfalso;omega))
  refine aE (α:=Nat) (fun n=>⟨57,[(14,.int .i64 (n:Int)),(12,.lst 31 (A.map TU.c) false),(2,.int .i64 now),(4,.int .i64 page)],[]⟩) (fun _=>St.none) (fun n=>n<A.length∧mU A pg (A.length - 1)=mU A pg n) (fun n=>n) (.of (.less ?_ (St.le_refl _)) ⟨A.length - 1,rfl,rfl,by omega,rfl⟩) ?_
  ·simp(maxSteps:=4000000) (disch:=first|decide|assumption|omega|(simp only[wL];omega)) only[go_sem,simprocAttr,bC,aS]
   all_goals first|rfl|omega|(simp;omega)
  ·rintro n ⟨hn1,hn2⟩
   rw[hn2]
   obtain⟨y,hy⟩:=bW A hn1
   have hat:=bF (f:=TU.c) hy
   obtain⟨y1,y2⟩:=hAq y (List.mem_of_getElem? hy)
   by_cases h0:n=0
   ·subst h0
    have hyD:A.getD 0 tuZ=y:=by rw[List.getD_eq_getElem?_getD,hy];rfl
    have hz:mU A pg 0=0:=rfl
    rw[hz,List.take_zero,QT,List.map_nil,if_neg (fun h=>hA0 h.symm),hyD]
    repeat' first|(refine wO ?_;intros)|refine wZ3 @FXs @hmA @hat ?_|fail
    all_goals first|exact fI (.nil _ _)|(exfalso;omega)
   ·obtain⟨m,rfl⟩:∃m,n=m+1:=⟨n - 1,by omega⟩
    have hmt:(A.map TU.c).take (m+1)=(A.take (m+1)).map TU.c:=List.map_take.symm
    have hnt:=fun tt=>CP (A.take (m+1)) (by rw[List.length_take];omega) (fun t h=>hAi t (List.mem_of_mem_take h)) tt
    have hF:=qT A pg m
    obtain⟨Y,hY⟩:∃Y,lW (A.take (m+1))=Y:=⟨_,rfl⟩
    simp only[hY] at hnt hF
    by_cases hfit:Y.length≤pg
    ·rw[if_pos hfit] at hF
     have hyD:A.getD (m+1) tuZ=y:=by rw[List.getD_eq_getElem?_getD,hy];rfl
     rw[hF,hY,if_neg oM,hyD]
     repeat' first|(refine aC (hnt _) ?_)|(refine wO ?_;intros)|refine wZ7 @FXs @hmA @hmt @hat @hmx @hmx' @hmI ?_|fail
     all_goals first|exact .same _|(exfalso;omega)
    ·rw[if_neg hfit] at hF
     repeat' first|(refine aC (hnt _) ?_)|refine wZ7 @FXs @hmA @hmt @hat @hmx @hmx' @hmI ?_|fail
     all_goals (try (exfalso;omega))
     all_goals
      refine .of (.less ?_ (St.none_le _)) ⟨m,rfl,rfl,⟨by omega,hF⟩,by omega⟩
      simp(maxSteps:=4000000) (disch:=first|decide|assumption|omega|(simp only[wL];omega)) only[go_sem,simprocAttr,bC,aS]
      all_goals first|rfl|omega|(simp;done)|(simp;omega)
end

section
open Go.ChangeShapes Go.WideShapes Go.RowKit
theorem PQ:PC.mayEnter=true:=by kernel_rfl
theorem Tj:PC.mainIs=some (Rows.viewNoneCard.stood.harness.1,Rows.viewNoneCard.stood.harness.2.toList):=by kernel_rfl
theorem PU:false=PC.looks []:=by kernel_rfl
end
end Go.Proofs.YtppdgejjmhdjhaaGreatDoor
