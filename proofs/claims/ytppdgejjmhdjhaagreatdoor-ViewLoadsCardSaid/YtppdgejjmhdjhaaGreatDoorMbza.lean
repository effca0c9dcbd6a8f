/- Parts of the proof, joined; conditions: those that its theorems name. -/
import Derived.Test.YtppdgejjmhdjhaaGreatDoorMbz
set_option linter.unusedVariables false
set_option linter.unusedSimpArgs false
set_option maxHeartbeats 4000000
namespace Go.Proofs.YtppdgejjmhdjhaaGreatDoor
set_option maxRecDepth 100000
set_option maxHeartbeats 8000000
theorem rV{nx:Int}{cs:List CA}{e:DE}:∀{l pre:List DE},fR nx cs pre (l++[e])=true→∀d,d∈pre++l→d.sq≤e.sq
 | [],pre,h,d,hd=>by
  simp only[List.nil_append,fR,Bool.and_eq_true] at h
  unfold JU at h
  simp only[Bool.and_eq_true,List.all_eq_true,decide_eq_true_eq] at h
  exact(h.1.2 d (by simpa using hd)).2
 | x::l,pre,h,d,hd=>by
  simp only[List.cons_append,fR,Bool.and_eq_true] at h
  exact rV h.2 d (by simpa using hd)
theorem JV{nx:Int}{cs:List CA}{ds:List DE}(h:fR nx cs [] ds=true){e:DE}(he:ds[ds.length - 1]?=some e)(s:Int):(ds.all fun d=>decide (d.sq≤s))=decide (e.sq≤s):=by
 have hl:=mX ds he
 have h0:0<ds.length:=by have:=(List.getElem?_eq_some_iff.1 he).1;omega
 rw[List.drop_eq_nil_of_le (by omega)] at hl
 obtain⟨L,hL⟩:∃L,ds.take (ds.length - 1)=L:=⟨_,rfl⟩
 rw[hL] at hl
 rw[hl] at h ⊢
 have hd:=rV h
 rw[Bool.eq_iff_iff,List.all_eq_true,decide_eq_true_eq]
 constructor
 ·intro q
  simpa using q e (by simp)
 ·intro q d hm
  rw[List.mem_append,List.mem_singleton] at hm
  rcases hm with hm|rfl
  ·have:=hd d (by simpa using hm)
   simp;omega
  ·simpa using q
def NU(B:BK)(v:MV)(σ':St):Prop:=(kG B=true∧∃m l q b ex,kE m l q b∧v=.tup [.ptr b 0 0,.bool true]∧σ'=bkS m l q b B ex)∨(kG B=false∧v=.tup [.nilp,.bool false]∧σ'=St.none)
theorem FX{B:BK}(h:kG B=false){σ:St}:Gh ⟨1,[(0,.tup [.nilp,.bool false])],[]⟩ σ fun f1 σ1=>∃v1,f1=⟨1,[(0,v1)],[]⟩∧NU B v1 σ1 :=
 .of (.less (l1:=[(0,.tup [.nilp,.bool false])]) (fun p hp=>by
  simp at hp;subst hp;exact .same _) (St.none_le _)) ⟨_,rfl,.inr ⟨h,rfl,rfl⟩⟩
theorem Bm(B:BK)(h1:B.cards.length≤1000000)(h2:B.dead.length≤1000000)(h3:B.gr.length≤1000000)(h4:∀g,g∈B.gr→g.mem.length≤1000000):aA Tryz.prog 44 [.agg B.c] St.none (NU B):=by
 refine aA.gh (aA.body 106 [.tmp 2,.tmp 3] Tryz.func44 rfl rfl rfl rfl ?_)
 have hgc:=I0 B.gr false h3 h4
 obtain⟨gk,hgk⟩:∃z,dK (-1) B.gr=z:=⟨_,rfl⟩
 rw[hgk] at hgc
 by_cases hs:nY B.nx B.cards B.dead=true
 rotate_left
 ·have hf:kG B=false:=by unfold kG;simp only[Bool.not_eq_true] at hs;rw[hs];simp
  have hc:=Jh h1 h2 (by simpa using hs)
  repeat' (first|(with_reducible first|refine up hc ?_)|(with_reducible first|(refine wT ?_;(first|((fail_if_success (have:=nl1));refine wN fun nl1 hnl=>?_)|((fail_if_success (have:=nl2));refine wN fun nl2 hnl=>?_)|((fail_if_success (have:=nl3));refine wN fun nl3 hnl=>?_)|((fail_if_success (have:=nl4));refine wN fun nl4 hnl=>?_)|((fail_if_success (have:=nl5));refine wN fun nl5 hnl=>?_)|refine wN fun _ hnl=>?_);revert hnl;(repeat refine wS fun _ _=>?_);intro hnl)|refine wE ?_|(refine wK ?_ ?_<;>intro h)|(refine wB ?_ ?_<;>intro h<;>simp only[h]))|simp(maxSteps:=4000000) (disch:=first|decide|assumption|omega|(simp only[wL];omega)) only[go_sem,simprocAttr,Tryz.f44])
  all_goals exact FX hf
 ·have hc:=Ji h1 h2 hs
  have hsh:=hs
  unfold nY eU at hsh
  simp only[Bool.and_eq_true,decide_eq_true_eq] at hsh
  obtain⟨⟨g1,g2,g3,g4⟩,g5,g6⟩:=hsh
  by_cases h0:0≤B.sq∧B.sq≤1099511627776∧gk=true
  rotate_left
  ·have hf:kG B=false:=by
    unfold kG big
    rw[hs,hgk]
    by_cases hq:0≤B.sq∧B.sq≤1099511627776
    ·cases gk
     ·simp
     ·exact absurd ⟨hq.1,hq.2,rfl⟩ h0
    ·rw[decide_eq_false hq];simp
   cases gk
   all_goals
    repeat' (first|(refine FJ hc ?_;(intro m l q ex hm hl hq hlm hqm hql;have hml:=Ne.symm hlm;have hmq:=Ne.symm hqm;have hlq:=Ne.symm hql;have m1:=(fD hm).1;have l1:=(fD hl).1;have q1:=(fD hq).1;have m2:=Ne.symm m1;have l2:=Ne.symm l1;have q2:=Ne.symm q1))|(with_reducible first|refine up hgc ?_)|(with_reducible first|(refine wT ?_;(first|((fail_if_success (have:=nl1));refine wN fun nl1 hnl=>?_)|((fail_if_success (have:=nl2));refine wN fun nl2 hnl=>?_)|((fail_if_success (have:=nl3));refine wN fun nl3 hnl=>?_)|((fail_if_success (have:=nl4));refine wN fun nl4 hnl=>?_)|((fail_if_success (have:=nl5));refine wN fun nl5 hnl=>?_)|refine wN fun _ hnl=>?_);revert hnl;(repeat refine wS fun _ _=>?_);intro hnl)|refine wE ?_|(refine wK ?_ ?_<;>intro h)|(refine wB ?_ ?_<;>intro h<;>simp only[h]))|simp(maxSteps:=4000000) (disch:=first|decide|assumption|omega|(simp only[wL];omega)) only[go_sem,simprocAttr,Tryz.f44])
    all_goals first|exact FX hf|(exfalso;simp at h0;omega)
  ·obtain⟨s1,s2,rfl⟩:=h0
   have hbk:kG B=((B.dead.all fun d=>decide (d.sq≤B.sq))&&B.gr.all fun g=>decide (b9 g.mem (B.cards.map CA.id)=[])):=by
    unfold kG big
    rw[hs,hgk,decide_eq_true ⟨s1,s2⟩,Bool.true_and,Bool.true_and,Bool.true_and]
   have hto:((B.dead.length:Int) - 1).toNat=B.dead.length - 1:=by omega
   have hlast:0<B.dead.length→∃e:DE,(B.dead.map DE.c).getD (B.dead.length - 1) []=e.c∧(B.dead.all fun d=>decide (d.sq≤B.sq))=decide (e.sq≤B.sq):=fun h=>by
    obtain⟨e,he⟩:=bI B.dead (show B.dead.length - 1<B.dead.length by omega)
    exact⟨e,bB he,JV g6 he _⟩
   have hlast0:B.dead.length=0→(B.dead.all fun d=>decide (d.sq≤B.sq))=true:=fun h=>by
    rw[List.eq_nil_of_length_eq_zero h];rfl
   obtain⟨dk,hdk⟩:∃z,(B.dead.all fun d=>decide (d.sq≤B.sq))=z:=⟨_,rfl⟩
   rw[hdk] at hbk hlast hlast0
   cases dk
   ·have hf:kG B=false:=by rw[hbk];rfl
    have hd0:0<B.dead.length:=by
     rcases Nat.eq_zero_or_pos B.dead.length with h|h
     ·cases hlast0 h
     ·exact h
    obtain⟨e,he,hde⟩:=hlast hd0
    have hde:¬e.sq≤B.sq:=by simpa using hde.symm
    repeat' (first|(refine FJ hc ?_;(intro m l q ex hm hl hq hlm hqm hql;have hml:=Ne.symm hlm;have hmq:=Ne.symm hqm;have hlq:=Ne.symm hql;have m1:=(fD hm).1;have l1:=(fD hl).1;have q1:=(fD hq).1;have m2:=Ne.symm m1;have l2:=Ne.symm l1;have q2:=Ne.symm q1))|(with_reducible first|refine up hgc ?_)|(with_reducible first|(refine wT ?_;(first|((fail_if_success (have:=nl1));refine wN fun nl1 hnl=>?_)|((fail_if_success (have:=nl2));refine wN fun nl2 hnl=>?_)|((fail_if_success (have:=nl3));refine wN fun nl3 hnl=>?_)|((fail_if_success (have:=nl4));refine wN fun nl4 hnl=>?_)|((fail_if_success (have:=nl5));refine wN fun nl5 hnl=>?_)|refine wN fun _ hnl=>?_);revert hnl;(repeat refine wS fun _ _=>?_);intro hnl)|refine wE ?_|(refine wK ?_ ?_<;>intro h)|(refine wB ?_ ?_<;>intro h<;>simp only[h]))|simp(maxSteps:=4000000) (disch:=first|decide|assumption|omega|(simp only[wL];omega)) only[go_sem,simprocAttr,Tryz.f44,he,hto])
    all_goals first|exact FX hf|(exfalso;omega)
   ·rw[Bool.true_and] at hbk
    have hup:=L1 g5
    have hend:∀(i:Nat),i≤B.gr.length→(∀g,g∈B.gr.take i→b9 g.mem (B.cards.map CA.id)=[])→i=B.gr.length→kG B=true:=fun i h1 h2 h3=>by
     subst h3
     rw[hbk,List.all_eq_true]
     intro g hg
     rw[List.take_length] at h2
     exact decide_eq_true (h2 g hg)
    have hbad:∀g,g∈B.gr→b9 g.mem (B.cards.map CA.id)≠[]→kG B=false:=fun g hg hne=>by
     rw[hbk,List.all_eq_false]
     exact⟨g,hg,by simpa using hne⟩
    clear hbk hdk hlast0
    obtain⟨K,hK⟩:∃K,B.cards.map CA.id=K:=⟨_,rfl⟩
    have hKl:K.length=B.cards.length:=by rw[←hK,List.length_map]
    have hhe:∃e:DE,0<B.dead.length→(B.dead.map DE.c).getD (B.dead.length - 1) []=e.c∧e.sq≤B.sq:=by
     rcases Nat.eq_zero_or_pos B.dead.length with h|h
     ·exact⟨deZ,fun h'=>by omega⟩
     ·obtain⟨e,he,hde⟩:=hlast h
      exact⟨e,fun _=>⟨he,by simpa using hde.symm⟩⟩
    obtain⟨e,he⟩:=hhe
    clear hlast
    have hN:∀{n:Nat} {σ:St} {o:aW} {k:Nat},(σ.set n o) k=none→k≠n:=fun h=>(fD h).1
    have he1:0<B.dead.length→(B.dead.map DE.c).getD (B.dead.length - 1) []=e.c:=fun h=>(he h).1
    have he2:0<B.dead.length→e.sq≤B.sq:=fun h=>(he h).2
    clear he
    repeat' (first|(refine FJ hc ?_;(intro m l q ex hm hl hq hlm hqm hql;have hml:=Ne.symm hlm;have hmq:=Ne.symm hqm;have hlq:=Ne.symm hql;have m1:=(fD hm).1;have l1:=(fD hl).1;have q1:=(fD hq).1;have m2:=Ne.symm m1;have l2:=Ne.symm l1;have q2:=Ne.symm q1))|(with_reducible first|refine up hgc ?_)|(with_reducible first|(refine wT ?_;(first|((fail_if_success (have:=nl1));refine wN fun nl1 hnl=>?_)|((fail_if_success (have:=nl2));refine wN fun nl2 hnl=>?_)|((fail_if_success (have:=nl3));refine wN fun nl3 hnl=>?_)|((fail_if_success (have:=nl4));refine wN fun nl4 hnl=>?_)|((fail_if_success (have:=nl5));refine wN fun nl5 hnl=>?_)|refine wN fun _ hnl=>?_);revert hnl;(repeat refine wS fun _ _=>?_);intro hnl)|refine wE ?_|(refine wK ?_ ?_<;>intro h)|(refine wB ?_ ?_<;>intro h<;>simp only[h]))|simp(maxSteps:=4000000) (disch:=first|decide|assumption|omega|(simp only[wL];omega)) only[go_sem,simprocAttr,Tryz.f44,he1,hto])
    all_goals (try (exfalso;omega))
    all_goals
     have b1:nl2≠nl1:=by assumption
     have b2:nl2≠m:=by assumption
     have b3:nl2≠l:=by assumption
     have b4:nl2≠q:=by assumption
     have b1':=Ne.symm b1
     have b2':=Ne.symm b2
     have b3':=Ne.symm b3
     have b4':=Ne.symm b4
    all_goals
     refine aF (α:=Nat × Nat × List (List MV)) (fun z=>⟨106,[(66,.int .i64 (z.1:Int)),(65,.int .i64 (B.cards.length:Int)),(64,.lst 27 (B.cards.map CA.c) false),(8,.vec 1 z.2.1 0 z.1),(7,.ptr nl2 0 0),(1,.ptr nl1 0 0)],[]⟩)
      (fun z=>((((((St.none.set nl1 (.row 47 5 [B.c])).set m (.mp (cEs B.cards))).set l (shO B.nx m (.vec 3 q 0 B.dead.length))).set q (.row 197 3 (B.dead.map DE.c++ex))).set nl2 (bL B.sq l .aZ))).set z.2.1 (.row 3 1 ((K.take z.1).map aP++z.2.2))) (fun z=>z.1≤B.cards.length∧z.2.1≠nl1∧z.2.1≠m∧z.2.1≠l∧z.2.1≠q∧z.2.1≠nl2) (fun z=>B.cards.length - z.1) ?_ ?_
     ·refine Gh.A4 3 1 (fun r=>[(66,.int .i64 0),(65,.int .i64 (B.cards.length:Int)),(64,.lst 27 (B.cards.map CA.c) false),(8,.vec 1 r 0 0),(7,.ptr nl2 0 0),(1,.ptr nl1 0 0)]) (fun k=>by(repeat' (refine And.intro ?_ ?_))<;>first|exact trivial|exact .inl rfl|exact .inr ⟨rfl,.inl rfl⟩|exact .inr ⟨rfl,.inr rfl⟩) fun r hr=>?_
      simp only[aX] at hr
      obtain⟨r1,r2,r3,r4,r5,-⟩:=hr
      exact .done ⟨(0,r,[]),rfl,rfl,Nat.zero_le _,by assumption,by assumption,by assumption,by assumption,by assumption⟩
     ·rintro⟨i,r,xx⟩ ⟨hi,r1,r2,r3,r4,r5⟩
      simp only at hi r1 r2 r3 r4 r5 ⊢
      have r1':=Ne.symm r1
      have r2':=Ne.symm r2
      have r3':=Ne.symm r3
      have r4':=Ne.symm r4
      have r5':=Ne.symm r5
      by_cases hlt:i<B.cards.length
      ·obtain⟨x,hx⟩:=bI B.cards hlt
       have hat:=bB (f:=CA.c) hx
       have hKx:K[i]?=some x.id:=by rw[←hK];exact gY hx
       have htk:=aV hKx
       have hLl:(K.take i).length=i:=by rw[List.length_take];omega
       obtain⟨L,hL⟩:∃L,K.take i=L:=⟨_,rfl⟩
       rw[hL] at htk hLl ⊢
       have hLm:(L.map aP).length=i:=by rw[List.length_map,hLl]
       have hdr:(L.map aP++xx).drop (i+1)=xx.drop 1:=by rw[←hLl];exact kI
       have htk':(L.map aP++xx).take i=L.map aP:=by rw[←hLl];exact jV
       repeat' (first|(with_reducible first|(refine wT ?_;(first|((fail_if_success (have:=nl1));refine wN fun nl1 hnl=>?_)|((fail_if_success (have:=nl2));refine wN fun nl2 hnl=>?_)|((fail_if_success (have:=nl3));refine wN fun nl3 hnl=>?_)|((fail_if_success (have:=nl4));refine wN fun nl4 hnl=>?_)|((fail_if_success (have:=nl5));refine wN fun nl5 hnl=>?_)|refine wN fun _ hnl=>?_);revert hnl;(repeat refine wS fun _ _=>?_);intro hnl)|refine wE ?_|(refine wK ?_ ?_<;>intro h)|(refine wB ?_ ?_<;>intro h<;>simp only[h]))|simp(maxSteps:=4000000) (disch:=first|decide|assumption|omega|(simp only[wL];omega)) only[go_sem,simprocAttr,FYs,hat,hLm,hLl,htk',hdr])
       all_goals (try (exfalso;omega))
       all_goals
        have p1:nl5≠nl1:=by assumption
        have p2:nl5≠m:=by assumption
        have p3:nl5≠l:=by assumption
        have p4:nl5≠q:=by assumption
        have p5:nl5≠nl2:=by assumption
        clear hat htk' hdr hend hbad he1 he2 hc hgc
       ·have hex:xx=[]:=List.eq_nil_of_length_eq_zero (by omega)
        subst hex
        refine .of (.less ?_ ?_) ⟨(i+1,nl5,[]),rfl,rfl,⟨by simp only;omega,p1,p2,p3,p4,p5⟩,by simp only;omega⟩
        ·simp(maxSteps:=4000000) (disch:=first|decide|assumption|omega|(simp only[wL];omega)) only[go_sem,simprocAttr,aC,aB]
         all_goals first|rfl|(simp;done)
        ·rw[htk]
         clear h
         exact St.aD (St.aD (St.aD (St.aD (St.aD (St.aD (St.none_le _) (by simp[St.set, *])) (by simp[St.set, *])) (by simp[St.set, *])) (by simp[St.set, *])) (by simp[St.set, *])) (by simp[St.set, *])
       ·refine .of (.less ?_ ?_) ⟨(i+1,nl5,xx.drop 1),rfl,rfl,⟨by simp only;omega,p1,p2,p3,p4,p5⟩,by simp only;omega⟩
        ·simp(maxSteps:=4000000) (disch:=first|decide|assumption|omega|(simp only[wL];omega)) only[go_sem,simprocAttr,aC,aB]
         all_goals first|rfl|(simp;done)
        ·rw[htk]
         exact St.aD (St.aD (St.aD (St.aD (St.aD (St.aD (St.none_le _) (by simp[St.set, *])) (by simp[St.set, *])) (by simp[St.set, *])) (by simp[St.set, *])) (by simp[St.set, *])) (by simp[St.set, *])
      ·have:i=B.cards.length:=by omega
       subst this
       have htl:K.take B.cards.length=K:=by rw[←hKl];exact List.take_length
       rw[htl]
       repeat' (first|(with_reducible first|(refine wT ?_;(first|((fail_if_success (have:=nl1));refine wN fun nl1 hnl=>?_)|((fail_if_success (have:=nl2));refine wN fun nl2 hnl=>?_)|((fail_if_success (have:=nl3));refine wN fun nl3 hnl=>?_)|((fail_if_success (have:=nl4));refine wN fun nl4 hnl=>?_)|((fail_if_success (have:=nl5));refine wN fun nl5 hnl=>?_)|refine wN fun _ hnl=>?_);revert hnl;(repeat refine wS fun _ _=>?_);intro hnl)|refine wE ?_|(refine wK ?_ ?_<;>intro h)|(refine wB ?_ ?_<;>intro h<;>simp only[h]))|simp(maxSteps:=4000000) (disch:=first|decide|assumption|omega|(simp only[wL];omega)) only[go_sem,simprocAttr])
       refine aF (α:=Nat × Nat × List (List MV)) (fun z=>⟨106,[(79,.int .i64 (z.1:Int)),(78,.int .i64 (B.gr.length:Int)),(77,.lst 2 (B.gr.map GR.c) false),(8,.lst 1 (K.map aP) false),(7,.ptr nl2 0 0)],[]⟩)
        (fun z=>(((((St.none.set m (.mp (cEs B.cards))).set l (shO B.nx m (.vec 3 q 0 B.dead.length))).set q (.row 197 3 (B.dead.map DE.c++ex))).set nl2 (bL B.sq l (.vec 2 z.2.1 0 z.1)))).set z.2.1 (.row 200 2 ((B.gr.take z.1).map GR.c++z.2.2))) (fun z=>z.1≤B.gr.length∧z.2.1≠m∧z.2.1≠l∧z.2.1≠q∧z.2.1≠nl2∧∀g,g∈B.gr.take z.1→b9 g.mem K=[]) (fun z=>B.gr.length - z.1) ?_ ?_
       ·refine .step (bM.freeze (l1:=[(79,.int .i64 0),(78,.int .i64 (B.gr.length:Int)),(77,.lst 2 (B.gr.map GR.c) false),(8,.lst 1 (K.map aP) false),(7,.ptr nl2 0 0)]) (σ1:=(((St.none.set m (.mp (cEs B.cards))).set l (shO B.nx m (.vec 3 q 0 B.dead.length))).set q (.row 197 3 (B.dead.map DE.c++ex))).set nl2 (bL B.sq l .aZ)) (St.none.set r (.row 3 1 (K.map aP++xx))) (St.aD (St.none_le _) (aJ _ _ _))
         (St.aD (St.aD (St.aD (St.aD (St.none_le _) (by simp[St.set, *])) (by simp[St.set, *])) (by simp[St.set, *])) (by simp[St.set, *])) (fun k o hk=>?_) (fun p hp=>?_)) (Gh.vW (b:=nl2) (t:=140) (e:=3) (pre:=[.int .i64 B.sq,.ptr l 0 0]) (post:=[]) 200 2 (by simp[St.set]) fun z hz=>?_)
        ·refine aM _ _ _ _ fun e=>?_
         subst e
         simp[St.set,St.none, *] at hk
        ·simp only[List.mem_cons,List.not_mem_nil,or_false] at hp
         rcases hp with rfl|rfl|rfl|rfl|rfl
         ·exact .same _
         ·exact .same _
         ·exact .same _
         ·exact eH (aJ _ _ _) (by rw[List.length_map,hKl])
         ·exact .same _
        ·simp only[aX] at hz
         obtain⟨z1,z2,z3,z4,-⟩:=hz
         have z1':=Ne.symm z1
         have z2':=Ne.symm z2
         have z3':=Ne.symm z3
         have z4':=Ne.symm z4
         refine .of (.less ?_ (St.aD (St.aD (St.aD (St.aD (St.aD (St.none_le _) (by simp[St.set, *])) (by simp[St.set, *])) (by simp[St.set, *])) (by simp[St.set, *])) (by simp[St.set, *]))) ⟨(0,z,[]),rfl,rfl,Nat.zero_le _,by assumption,by assumption,by assumption,by assumption,by simp⟩
         simp(maxSteps:=4000000) (disch:=first|decide|assumption|omega|(simp only[wL];omega)) only[go_sem,simprocAttr,aC,aB]
         all_goals first|rfl|(simp;done)
       ·clear r1 r2 r3 r4 r5 r1' r2' r3' r4' r5' hi hlt htl
        rintro⟨i,z,xx⟩ ⟨hi,z2,z3,z4,z5,hall⟩
        simp only at hi z2 z3 z4 z5 hall ⊢
        have z2':=Ne.symm z2
        have z3':=Ne.symm z3
        have z4':=Ne.symm z4
        have z5':=Ne.symm z5
        by_cases hlt:i<B.gr.length
        ·obtain⟨x,hx⟩:=bI B.gr hlt
         have hat:=bB (f:=GR.c) hx
         obtain⟨-,-,-,hxo⟩:=Al hgk hx 0
         have hmin:=C5 x.mem K (h4 x (cZ hx)) (by rw[hKl];exact h1) (FI hxo).1 (by rw[←hK];exact hup) false false
         have hcl:=Bs x.mem (h4 x (cZ hx)) false
         have hbx:=hbad x (cZ hx)
         rw[hK] at hbx
         obtain⟨M,hM⟩:∃M,b9 x.mem K=M:=⟨_,rfl⟩
         rw[hM] at hmin hbx
         by_cases hM0:M=[]
         ·subst hM0
          have htk:=aV hx
          have hLl:(B.gr.take i).length=i:=by rw[List.length_take];omega
          have hnew:∀g,g∈B.gr.take (i+1)→b9 g.mem K=[]:=fun g hg=>by
           rw[htk,List.mem_append,List.mem_singleton] at hg
           rcases hg with hg|rfl
           ·exact hall g hg
           ·exact hM
          obtain⟨L,hL⟩:∃L,B.gr.take i=L:=⟨_,rfl⟩
          rw[hL] at htk hLl hall ⊢
          have hLm:(L.map GR.c).length=i:=by rw[List.length_map,hLl]
          have hdr:(L.map GR.c++xx).drop (i+1)=xx.drop 1:=by rw[←hLl];exact kI
          have htk':(L.map GR.c++xx).take i=L.map GR.c:=by rw[←hLl];exact jV
          obtain⟨C,c1⟩:∃C:bR,∀ms,C 114 ms=some ⟨[],fun v=>v=.lst 1 (x.mem.map aP) false,none⟩:=⟨tV 114 (.lst 1 (x.mem.map aP) false),fun _=>gJ⟩
          repeat' (first|((with_reducible refine aK mixed ?chk C ?_);(case chk=>decide +kernel))|(with_reducible refine aI (c1 _) hcl ?_)|(with_reducible first|refine up hmin ?_)|(with_reducible first|(refine wT ?_;(first|((fail_if_success (have:=nl1));refine wN fun nl1 hnl=>?_)|((fail_if_success (have:=nl2));refine wN fun nl2 hnl=>?_)|((fail_if_success (have:=nl3));refine wN fun nl3 hnl=>?_)|((fail_if_success (have:=nl4));refine wN fun nl4 hnl=>?_)|((fail_if_success (have:=nl5));refine wN fun nl5 hnl=>?_)|refine wN fun _ hnl=>?_);revert hnl;(repeat refine wS fun _ _=>?_);intro hnl)|refine wE ?_|(refine wK ?_ ?_<;>intro h)|(refine wB ?_ ?_<;>intro h<;>simp only[h]))|simp(maxSteps:=4000000) (disch:=first|decide|assumption|omega|(simp only[wL];omega)) only[go_sem,simprocAttr,FYs,hat,hLm,hLl,htk',hdr])
          all_goals (try (exfalso;omega))
          all_goals
           have p2:nl5≠m:=by assumption
           have p3:nl5≠l:=by assumption
           have p4:nl5≠q:=by assumption
           have p5:nl5≠nl2:=by assumption
           clear hat htk' hdr hend hbad he1 he2 hc hgc hall hmin hcl c1 hbx
          ·have hex:xx=[]:=List.eq_nil_of_length_eq_zero (by omega)
           subst hex
           refine .of (.less ?_ ?_) ⟨(i+1,nl5,[]),rfl,rfl,⟨by simp only;omega,p2,p3,p4,p5,hnew⟩,by simp only;omega⟩
           ·simp(maxSteps:=4000000) (disch:=first|decide|assumption|omega|(simp only[wL];omega)) only[go_sem,simprocAttr,aC,aB]
            all_goals first|rfl|(simp;done)
           ·rw[htk]
            clear h hnew
            exact St.aD (St.aD (St.aD (St.aD (St.aD (St.none_le _) (by simp[St.set, *])) (by simp[St.set, *])) (by simp[St.set, *])) (by simp[St.set, *])) (by simp[St.set, *])
          ·refine .of (.less ?_ ?_) ⟨(i+1,nl5,xx.drop 1),rfl,rfl,⟨by simp only;omega,p2,p3,p4,p5,hnew⟩,by simp only;omega⟩
           ·simp(maxSteps:=4000000) (disch:=first|decide|assumption|omega|(simp only[wL];omega)) only[go_sem,simprocAttr,aC,aB]
            all_goals first|rfl|(simp;done)
           ·rw[htk]
            clear h hnew
            exact St.aD (St.aD (St.aD (St.aD (St.aD (St.none_le _) (by simp[St.set, *])) (by simp[St.set, *])) (by simp[St.set, *])) (by simp[St.set, *])) (by simp[St.set, *])
         ·have hM1:0<M.length:=List.length_pos_iff.2 hM0
          have hf:=hbx hM0
          repeat' (first|(with_reducible first|refine up hmin ?_)|(with_reducible first|(refine wT ?_;(first|((fail_if_success (have:=nl1));refine wN fun nl1 hnl=>?_)|((fail_if_success (have:=nl2));refine wN fun nl2 hnl=>?_)|((fail_if_success (have:=nl3));refine wN fun nl3 hnl=>?_)|((fail_if_success (have:=nl4));refine wN fun nl4 hnl=>?_)|((fail_if_success (have:=nl5));refine wN fun nl5 hnl=>?_)|refine wN fun _ hnl=>?_);revert hnl;(repeat refine wS fun _ _=>?_);intro hnl)|refine wE ?_|(refine wK ?_ ?_<;>intro h)|(refine wB ?_ ?_<;>intro h<;>simp only[h]))|simp(maxSteps:=4000000) (disch:=first|decide|assumption|omega|(simp only[wL];omega)) only[go_sem,simprocAttr,hat])
          all_goals first|exact FX hf|(exfalso;omega)
        ·have:i=B.gr.length:=by omega
         subst this
         have hok:=hend _ hi (by rw[hK];exact hall) rfl
         rw[List.take_length]
         repeat' (first|(with_reducible first|(refine wT ?_;(first|((fail_if_success (have:=nl1));refine wN fun nl1 hnl=>?_)|((fail_if_success (have:=nl2));refine wN fun nl2 hnl=>?_)|((fail_if_success (have:=nl3));refine wN fun nl3 hnl=>?_)|((fail_if_success (have:=nl4));refine wN fun nl4 hnl=>?_)|((fail_if_success (have:=nl5));refine wN fun nl5 hnl=>?_)|refine wN fun _ hnl=>?_);revert hnl;(repeat refine wS fun _ _=>?_);intro hnl)|refine wE ?_|(refine wK ?_ ?_<;>intro h)|(refine wB ?_ ?_<;>intro h<;>simp only[h]))|simp(maxSteps:=4000000) (disch:=first|decide|assumption|omega|(simp only[wL];omega)) only[go_sem,simprocAttr])
         refine .of (bM.yT z nl2 [.int .i64 B.sq,.ptr l 0 0] [] (aJ _ _ _) (by simp[St.set,z5',z5];rfl) z5' (eH (aJ _ _ _) (by rw[List.length_map])) rfl
          (σ1:=bkS m l q nl2 B ex) (l1:=[(0,.tup [.ptr nl2 0 0,.bool true])]) (aJ _ _ _) (fun k o hk=>?_) (fun p hp=>by simp only[List.mem_singleton] at hp;subst hp;exact .same _)) ⟨_,rfl,.inl ⟨hok,m,l,q,nl2,ex,⟨hlm,hqm,hql,b2,b3,b4⟩,rfl,rfl⟩⟩
         by_cases k1:k=nl2
         ·subst k1;exact⟨z5',.inl rfl⟩
         ·have hk:shS B.nx m l q B.cards B.dead ex k=some o:=(aM _ _ _ _ k1).symm.trans hk
          have k2:k≠z:=fun e=>by
           subst e
           simp[St.set,St.none,z2,z3,z4] at hk
          refine⟨k2,.inr ?_⟩
          rw[aM _ _ _ _ k2,aM _ _ _ _ k1]
          exact hk
end Go.Proofs.YtppdgejjmhdjhaaGreatDoor
