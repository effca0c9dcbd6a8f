/- Parts of the proof; conditions: as its theorems name them. -/
import Derived.Test.YtppdgejjmhdjhaaGreatDoorMazf
set_option linter.unusedVariables false
set_option linter.unusedSimpArgs false
set_option maxHeartbeats 8000000
set_option maxRecDepth 100000
namespace Go.Proofs.YtppdgejjmhdjhaaGreatDoor
theorem JS(g:Nat)(l:List TU)(hl:l.length≤1000000)(ex0:List (List MV))(f now cur page:Int)(hid:∀t,t∈l→1≤t.id∧t.id<1073741824)(hq:∀t,t∈l→1≤t.sq∧t.sq≤1099511627776)(hC:Chn (upS l f now cur)) :
  aA Tryz.prog 89 [.vec 31 g 0 l.length,.int .i64 f,.int .i64 now,.int .i64 cur,.int .i64 page] (St.none.set g (lgO l ex0)) (fun r σ'=>r=.tup [.lst 28 ((zQ l f now cur page).1.map IT.k) false,.int .i64 (zQ l f now cur page).2]∧σ'=St.none.set g (lgO l ex0)):=by
 refine aA.RL (Q:=fun σ'=>σ'=St.none.set g (lgO l ex0)) (mB 93 [.tmp 10,.tmp 11] Tryz.func89 ?_)
 have hs:=Hr g l hl ex0 f now cur
 have hgs:∀{σ':St} {v r:MV},(St.none.set g (lgO l ex0)).le σ'→View St.none v r→∃τ σv:St,τ=St.none.set g (lgO l ex0)∧σv.le σ'∧τ.le σ'∧(∀k o,τ k=some o→σv k=none)∧View σv v r:=fun h hv=>⟨_,St.none,rfl,St.none_le _,h,fun _ _ _=>rfl,hv⟩
 have hAl:=LS l f now cur
 have hAi:∀t,t∈upS l f now cur→1≤t.id∧t.id<1073741824:=fun t h=>hid t (EZ.1 h).1
 have hAq:∀t,t∈upS l f now cur→1≤t.sq∧t.sq≤1099511627776:=fun t h=>hq t (EZ.1 h).1
 unfold zQ
 obtain⟨A,hA⟩:∃A,upS l f now cur=A:=⟨_,rfl⟩
 rw[hA] at hs hC hAl hAi hAq ⊢
 have hmx:(if page<0 then 0 else page)=(pgN page:Int):=by unfold pgN;split<;>omega
 have hmx':(if 0 > page then 0 else page)=(pgN page:Int):=hmx
 obtain⟨pg,hpg⟩:∃n,pgN page=n:=⟨_,rfl⟩
 rw[hpg] at hmx hmx' ⊢
 have hmA:(A.map TU.c).length=A.length:=List.length_map _
 by_cases h0:A=[]
 ·subst h0
  have hz:Fo [] now (nF [] pg ([]:List TU).length)=([],now):=rfl
  rw[hz]
  repeat' first|(refine b6 hs (St.aB (St.none_le _) sS) ?_)|(refine wM ?_;(first|(have _:=nl1)|(intro nl1));intros)|refine wZ3 @Tryz.f89.eq_1 @hmx @hmx' ?_|fail
  all_goals first|exact hgs (St.le_refl _) (cN (.nil _ _))|exact hgs (St.aB (St.none_le _) sS) (cN (.nil _ _))|(exfalso;omega)
 have hA0:A.length≠0:=fun h=>h0 (List.eq_nil_of_length_eq_zero h)
 repeat' first|(refine b6 hs (St.aB (St.none_le _) sS) ?_)|(refine wM ?_;(first|(have _:=nl1)|(intro nl1));intros)|refine wZ4 @Tryz.f89.eq_1 @hmx @hmx' @hmA ?_|fail
 all_goals (try (exfalso;omega))
 have gn:nl1≠g:=by assumption
 have ng:=Ne.symm gn
 refine aF (α:=Nat × List (MV × MV)) (fun z=>⟨93,[(35,.int .i64 (z.1:Int)),(34,.int .i64 (A.length:Int)),(33,.lst 31 (A.map TU.c) false),(12,.lst 31 (A.map TU.c) false),(13,.mapv nl1),(14,.int .i64 ((lZ (A.take z.1)).length:Int)),(15,.int .i64 ((nF A pg z.1:Int) - 1)),(2,.int .i64 now),(4,.int .i64 (pg:Int))],[]⟩)
  (fun z=>(St.none.set g (lgO l ex0)).set nl1 (.mp z.2)) (fun z=>z.1≤A.length∧E4 (A.take z.1) z.2) (fun z=>A.length - z.1) (.of (.less ?_ (St.le_refl _)) ⟨(0,[]),rfl,rfl,Nat.zero_le _,GW⟩) ?_
 ·simp(maxSteps:=4000000) (disch:=first|decide|assumption|omega|(simp only[wL];omega)) only[go_sem,simprocAttr,aU,aN]
  all_goals first|rfl|(simp[lZ,jJ,nF];done)
 ·rintro⟨i,es⟩ ⟨hi,hM⟩
  simp only at hi hM ⊢
  by_cases hlt:i<A.length
  ·obtain⟨x,hx⟩:=bU A hlt
   have hat:=bN (f:=TU.c) hx
   have hn:=N2 (hC.at hx)
   rw[←aZ hx] at hn
   have hF:=MB A pg i
   obtain⟨K,hK⟩:∃K,(lZ (A.take i)).length=K:=⟨_,rfl⟩
   obtain⟨K2,hK2⟩:∃K,(lZ (A.take (i+1))).length=K:=⟨_,rfl⟩
   obtain⟨F,hF0⟩:∃F,nF A pg i=F:=⟨_,rfl⟩
   obtain⟨F2,hF2⟩:∃F,nF A pg (i+1)=F:=⟨_,rfl⟩
   have hKl:K≤i:=by
    have h1:=Ay (A.take i)
    have h2:=tM (A.take i)
    rw[List.length_take] at h2
    omega
   rw[hK,hK2] at hn
   rw[hK2,hF0,hF2] at hF
   have hg:=hM.g x.id
   have hk:=hM.k
   rw[hK,hF0]
   cases ho:jQ (A.take i) x.id with
   | none =>
    rw[ho,Option.map_none] at hg
    rw[ho,Option.getD_none,if_neg (by simp)] at hn
    have hO:=GU hM ho
    rw[←aZ hx] at hO
    obtain⟨xn,xo,hxn,hxo⟩:∃a b,x.new=a∧x.old=b:=⟨_,_,rfl,rfl⟩
    rw[hxn,hxo] at hn
    by_cases h1:xn=xo<;>by_cases h2:K2≤pg
    all_goals
     (first|rw[if_pos h2] at hF|rw[if_neg h2] at hF)
     (first|rw[if_neg (by simpa using h1)] at hn|rw[if_pos h1] at hn)
     repeat' first|(refine aJ mixed dK (fun _ _=>none) ?_)|(refine wM ?_;intros)|refine wZ11 @FXs @hat @hg @hk @hxn @hxo @List.headD_cons.{0} @Option.getD_some.{0} @Option.getD_none.{0} @Option.isSome_some.{0} @Option.isSome_none.{0} ?_|fail
     all_goals (try (exfalso;omega))
     all_goals
      refine .of (.less ?_ (σ1:=(St.none.set g (lgO l ex0)).set nl1 (.mp (dG .i64 x.id (.int .i64 xo) es))) (le2 sS sS)) ⟨(i+1,dG .i64 x.id (.int .i64 xo) es),rfl,rfl,⟨by simp only;omega,by rw[←hxo];exact hO⟩,by simp only;omega⟩
      rw[hK2,hF2]
      simp(maxSteps:=4000000) (disch:=first|decide|assumption|omega|(simp only[wL];omega)) only[go_sem,simprocAttr,aU,aN]
      all_goals first|rfl|omega|(constructor<;>omega)|(simp;done)
   | some o =>
    rw[ho,Option.map_some] at hg
    rw[ho,Option.getD_some] at hn
    have hO:=GX hM ho
    rw[←aZ hx] at hO
    obtain⟨xn,xo,hxn,hxo⟩:∃a b,x.new=a∧x.old=b:=⟨_,_,rfl,rfl⟩
    rw[hxn,hxo] at hn
    by_cases h1:xn=o<;>by_cases h2:K2≤pg<;>by_cases h3:xo=o
    all_goals
     (first|rw[if_pos h2] at hF|rw[if_neg h2] at hF)
     simp only[h1,h3,ne_eq,not_true_eq_false,not_false_eq_true,if_true,if_false] at hn
     repeat' first|(refine aJ mixed dK (fun _ _=>none) ?_)|(refine wM ?_;intros)|refine wZ11 @FXs @hat @hg @hk @hxn @hxo @List.headD_cons.{0} @Option.getD_some.{0} @Option.getD_none.{0} @Option.isSome_some.{0} @Option.isSome_none.{0} ?_|fail
     all_goals (try (exfalso;omega))
     all_goals
      refine .of (.less ?_ (σ1:=(St.none.set g (lgO l ex0)).set nl1 (.mp es)) (le2 sS sS)) ⟨(i+1,es),rfl,rfl,⟨by simp only;omega,hO⟩,by simp only;omega⟩
      rw[hK2,hF2]
      simp(maxSteps:=4000000) (disch:=first|decide|assumption|omega|(simp only[wL];omega)) only[go_sem,simprocAttr,aU,aN]
      all_goals first|rfl|omega|(constructor<;>omega)|(simp;done)
  ·obtain rfl:i=A.length:=by omega
   unfold Fo
   have hfl:=Dy A pg A.length
   obtain⟨F,hF⟩:∃F,nF A pg A.length=F:=⟨_,rfl⟩
   rw[hF] at hfl ⊢
   have hF1:(F:Int) - 1+1=(F:Int):=by omega
   have hmt:(A.map TU.c).take F=(A.take F).map TU.c:=List.map_take.symm
   have hnt:=fun tt=>Oj (A.take F) (by rw[List.length_take];omega) (fun t h=>hAi t (List.mem_of_mem_take h)) tt
   by_cases hFe:F=A.length
   ·rw[if_pos hFe]
    repeat' first|(refine aC (hnt _) ?_)|refine wZ4 @FXs @hmA @hF1 @hmt ?_|fail
    all_goals (try (exfalso;omega))
    all_goals exact hgs (St.aB (St.none_le _) sS) (.same _)
   ·rw[if_neg hFe]
    obtain⟨y,hy⟩:=bU A (by omega:F<A.length)
    have hat:=bN (f:=TU.c) hy
    obtain⟨y1,y2⟩:=hAq y (List.mem_of_getElem? hy)
    have hyD:A.getD F tuZ=y:=by rw[List.getD_eq_getElem?_getD,hy];rfl
    rw[hyD]
    repeat' first|(refine aC (hnt _) ?_)|refine wV ?_|refine wZ5 @FXs @hmA @hF1 @hmt @hat ?_|fail
    all_goals (try (exfalso;omega))
    all_goals exact hgs (St.aB (St.none_le _) sS) (.same _)
end Go.Proofs.YtppdgejjmhdjhaaGreatDoor
