/- Parts of the proof, joined; conditions: those that its theorems name. -/
import Derived.Test.YtojmhmejdihaaaaGreatDoorStze
import Derived.Test.YtojmhmejdihaaaaGreatDoorStzf
import Derived.Test.YtojmhmejdihaaaaGreatDoorStzg
set_option linter.unusedVariables false
set_option linter.unusedSimpArgs false
set_option maxHeartbeats 4000000
namespace Go.Proofs.YtojmhmejdihaaaaGreatDoor
section
set_option maxRecDepth 100000
set_option maxHeartbeats 8000000
theorem sJ{nx:Int}{cs:List CA}{e:DE}:∀{l pre:List DE},fX nx cs pre (l++[e])=true→∀d,d∈pre++l→d.sq≤e.sq
 | [],pre,h,d,hd=>by
  simp only[List.nil_append,fX,Bool.and_eq_true] at h
  unfold JY at h
  simp only[Bool.and_eq_true,List.all_eq_true,decide_eq_true_eq] at h
  exact(h.1.2 d (by simpa using hd)).2
 | x::l,pre,h,d,hd=>by
  simp only[List.cons_append,fX,Bool.and_eq_true] at h
  exact sJ h.2 d (by simpa using hd)
theorem JZ{nx:Int}{cs:List CA}{ds:List DE}(h:fX nx cs [] ds=true){e:DE}(he:ds[ds.length - 1]?=some e)(s:Int):(ds.all fun d=>decide (d.sq≤s))=decide (e.sq≤s):=by
 have hl:=gX ds he
 have h0:0<ds.length:=by have:=(List.getElem?_eq_some_iff.1 he).1;omega
 rw[List.drop_eq_nil_of_le (by omega)] at hl
 obtain⟨L,hL⟩:∃L,ds.take (ds.length - 1)=L:=⟨_,rfl⟩
 rw[hL] at hl
 rw[hl] at h ⊢
 have hd:=sJ h
 rw[Bool.eq_iff_iff,List.all_eq_true,decide_eq_true_eq]
 constructor
 ·intro q
  simpa using q e (by simp)
 ·intro q d hm
  rw[List.mem_append,List.mem_singleton] at hm
  rcases hm with hm|rfl
  ·have:=hd d (by simpa using hm)
   simp;omega
  ·simpa using q
def N5(B:BK)(v:MV)(σ':St):Prop:=(iQ B=true∧∃m l q b ex,pU m l q b∧v=.tup [.ptr b 0 0,.bool true]∧σ'=bkS m l q b B ex)∨(iQ B=false∧v=.tup [.nilp,.bool false]∧σ'=St.none)
theorem F7{B:BK}(h:iQ B=false){σ:St}:Gh ⟨1,[(0,.tup [.nilp,.bool false])],[]⟩ σ fun f1 σ1=>∃v1,f1=⟨1,[(0,v1)],[]⟩∧N5 B v1 σ1 :=
 .of (.less (l1:=[(0,.tup [.nilp,.bool false])]) (fun p hp=>by
  simp at hp;subst hp;exact .same _) (St.none_le _)) ⟨_,rfl,.inr ⟨h,rfl,rfl⟩⟩
theorem sH(B:BK)(h1:B.cards.length≤1000000)(h2:B.dead.length≤1000000)(h3:B.gr.length≤1000000)(h4:∀g,g∈B.gr→g.mem.length≤1000000):aA Tryz.prog 25 [.agg B.c] St.none (N5 B):=by
 refine aA.gh (aA.body 106 [.tmp 2,.tmp 3] Tryz.func25 rfl rfl rfl rfl ?_)
 have hgc:=IV B.gr false h3 h4
 obtain⟨gk,hgk⟩:∃z,dQ (-1) B.gr=z:=⟨_,rfl⟩
 rw[hgk] at hgc
 by_cases hs:oH B.nx B.cards B.dead=true
 rotate_left
 ·have hf:iQ B=false:=by unfold iQ;simp only[Bool.not_eq_true] at hs;rw[hs];simp
  have hc:=Jh h1 h2 (by simpa using hs)
  repeat' (first|(with_reducible first|refine up hc ?_)|(with_reducible first|(refine wT ?_;(first|((fail_if_success (have:=nl1));refine wN fun nl1 hnl=>?_)|((fail_if_success (have:=nl2));refine wN fun nl2 hnl=>?_)|((fail_if_success (have:=nl3));refine wN fun nl3 hnl=>?_)|((fail_if_success (have:=nl4));refine wN fun nl4 hnl=>?_)|((fail_if_success (have:=nl5));refine wN fun nl5 hnl=>?_)|refine wN fun _ hnl=>?_);revert hnl;(repeat refine wS fun _ _=>?_);intro hnl)|refine wE ?_|(refine wK ?_ ?_<;>intro h)|(refine wB ?_ ?_<;>intro h<;>simp only[h]))|simp(maxSteps:=4000000) (disch:=first|exact ddL|fail) only[go_sem,simprocAttr,Tryz.f25])
  all_goals exact F7 hf
 ·have hc:=Ji h1 h2 hs
  have hsh:=hs
  unfold oH eD at hsh
  simp only[Bool.and_eq_true,decide_eq_true_eq] at hsh
  obtain⟨⟨g1,g2,g3,g4⟩,g5,g6⟩:=hsh
  by_cases h0:0≤B.sq∧B.sq≤1099511627776∧gk=true
  rotate_left
  ·have hf:iQ B=false:=by
    unfold iQ big
    rw[hs,hgk]
    by_cases hq:0≤B.sq∧B.sq≤1099511627776
    ·cases gk
     ·simp
     ·exact absurd ⟨hq.1,hq.2,rfl⟩ h0
    ·rw[decide_eq_false hq];simp
   cases gk
   all_goals
    repeat' (first|(refine FU hc ?_;(intro m l q ex hm hl hq hlm hqm hql;have hml:=Ne.symm hlm;have hmq:=Ne.symm hqm;have hlq:=Ne.symm hql;have m1:=(bL hm).1;have l1:=(bL hl).1;have q1:=(bL hq).1;have m2:=Ne.symm m1;have l2:=Ne.symm l1;have q2:=Ne.symm q1))|(with_reducible first|refine up hgc ?_)|(with_reducible first|(refine wT ?_;(first|((fail_if_success (have:=nl1));refine wN fun nl1 hnl=>?_)|((fail_if_success (have:=nl2));refine wN fun nl2 hnl=>?_)|((fail_if_success (have:=nl3));refine wN fun nl3 hnl=>?_)|((fail_if_success (have:=nl4));refine wN fun nl4 hnl=>?_)|((fail_if_success (have:=nl5));refine wN fun nl5 hnl=>?_)|refine wN fun _ hnl=>?_);revert hnl;(repeat refine wS fun _ _=>?_);intro hnl)|refine wE ?_|(refine wK ?_ ?_<;>intro h)|(refine wB ?_ ?_<;>intro h<;>simp only[h]))|simp(maxSteps:=4000000) (disch:=first|exact ddL|fail) only[go_sem,simprocAttr,Tryz.f25])
    all_goals first|exact F7 hf|(exfalso;simp at h0;omega)
  ·obtain⟨s1,s2,rfl⟩:=h0
   have hbk:iQ B=((B.dead.all fun d=>decide (d.sq≤B.sq))&&B.gr.all fun g=>decide (cG g.mem (B.cards.map CA.id)=[])):=by
    unfold iQ big
    rw[hs,hgk,decide_eq_true ⟨s1,s2⟩,Bool.true_and,Bool.true_and,Bool.true_and]
   have hto:((B.dead.length:Int) - 1).toNat=B.dead.length - 1:=by omega
   have hlast:0<B.dead.length→∃e:DE,(B.dead.map DE.c).getD (B.dead.length - 1) []=e.c∧(B.dead.all fun d=>decide (d.sq≤B.sq))=decide (e.sq≤B.sq):=fun h=>by
    obtain⟨e,he⟩:=bC B.dead (show B.dead.length - 1<B.dead.length by omega)
    exact⟨e,aV he,JZ g6 he _⟩
   have hlast0:B.dead.length=0→(B.dead.all fun d=>decide (d.sq≤B.sq))=true:=fun h=>by
    rw[List.eq_nil_of_length_eq_zero h];rfl
   obtain⟨dk,hdk⟩:∃z,(B.dead.all fun d=>decide (d.sq≤B.sq))=z:=⟨_,rfl⟩
   rw[hdk] at hbk hlast hlast0
   cases dk
   ·have hf:iQ B=false:=by rw[hbk];rfl
    have hd0:0<B.dead.length:=by
     rcases Nat.eq_zero_or_pos B.dead.length with h|h
     ·cases hlast0 h
     ·exact h
    obtain⟨e,he,hde⟩:=hlast hd0
    have hde:¬e.sq≤B.sq:=by simpa using hde.symm
    repeat' (first|(refine FU hc ?_;(intro m l q ex hm hl hq hlm hqm hql;have hml:=Ne.symm hlm;have hmq:=Ne.symm hqm;have hlq:=Ne.symm hql;have m1:=(bL hm).1;have l1:=(bL hl).1;have q1:=(bL hq).1;have m2:=Ne.symm m1;have l2:=Ne.symm l1;have q2:=Ne.symm q1))|(with_reducible first|refine up hgc ?_)|(with_reducible first|(refine wT ?_;(first|((fail_if_success (have:=nl1));refine wN fun nl1 hnl=>?_)|((fail_if_success (have:=nl2));refine wN fun nl2 hnl=>?_)|((fail_if_success (have:=nl3));refine wN fun nl3 hnl=>?_)|((fail_if_success (have:=nl4));refine wN fun nl4 hnl=>?_)|((fail_if_success (have:=nl5));refine wN fun nl5 hnl=>?_)|refine wN fun _ hnl=>?_);revert hnl;(repeat refine wS fun _ _=>?_);intro hnl)|refine wE ?_|(refine wK ?_ ?_<;>intro h)|(refine wB ?_ ?_<;>intro h<;>simp only[h]))|simp(maxSteps:=4000000) (disch:=first|exact ddL|fail) only[go_sem,simprocAttr,Tryz.f25,he,hto])
    all_goals first|exact F7 hf|(exfalso;omega)
   ·rw[Bool.true_and] at hbk
    have hup:=Mg g5
    have hend:∀(i:Nat),i≤B.gr.length→(∀g,g∈B.gr.take i→cG g.mem (B.cards.map CA.id)=[])→i=B.gr.length→iQ B=true:=fun i h1 h2 h3=>by
     subst h3
     rw[hbk,List.all_eq_true]
     intro g hg
     rw[List.take_length] at h2
     exact decide_eq_true (h2 g hg)
    have hbad:∀g,g∈B.gr→cG g.mem (B.cards.map CA.id)≠[]→iQ B=false:=fun g hg hne=>by
     rw[hbk,List.all_eq_false]
     exact⟨g,hg,by simpa using hne⟩
    clear hbk hdk hlast0
    obtain⟨K,hK⟩:∃K,B.cards.map CA.id=K:=⟨_,rfl⟩
    have hKl:K.length=B.cards.length:=by rw[←hK,List.length_map]
    have hhe:∃e:DE,0<B.dead.length→(B.dead.map DE.c).getD (B.dead.length - 1) []=e.c∧e.sq≤B.sq:=by
     rcases Nat.eq_zero_or_pos B.dead.length with h|h
     ·exact⟨deZ,fun h'=>by omega⟩
     ·obtain⟨e,he,hde⟩:=hlast h
      exact⟨e,fun _=>⟨he,by simpa using hde.symm⟩⟩
    obtain⟨e,he⟩:=hhe
    clear hlast
    have hN:∀{n:Nat} {σ:St} {o:bE} {k:Nat},(σ.set n o) k=none→k≠n:=fun h=>(bL h).1
    have he1:0<B.dead.length→(B.dead.map DE.c).getD (B.dead.length - 1) []=e.c:=fun h=>(he h).1
    have he2:0<B.dead.length→e.sq≤B.sq:=fun h=>(he h).2
    clear he
    repeat' (first|(refine FU hc ?_;(intro m l q ex hm hl hq hlm hqm hql;have hml:=Ne.symm hlm;have hmq:=Ne.symm hqm;have hlq:=Ne.symm hql;have m1:=(bL hm).1;have l1:=(bL hl).1;have q1:=(bL hq).1;have m2:=Ne.symm m1;have l2:=Ne.symm l1;have q2:=Ne.symm q1))|(with_reducible first|refine up hgc ?_)|(with_reducible first|(refine wT ?_;(first|((fail_if_success (have:=nl1));refine wN fun nl1 hnl=>?_)|((fail_if_success (have:=nl2));refine wN fun nl2 hnl=>?_)|((fail_if_success (have:=nl3));refine wN fun nl3 hnl=>?_)|((fail_if_success (have:=nl4));refine wN fun nl4 hnl=>?_)|((fail_if_success (have:=nl5));refine wN fun nl5 hnl=>?_)|refine wN fun _ hnl=>?_);revert hnl;(repeat refine wS fun _ _=>?_);intro hnl)|refine wE ?_|(refine wK ?_ ?_<;>intro h)|(refine wB ?_ ?_<;>intro h<;>simp only[h]))|simp(maxSteps:=4000000) (disch:=first|exact ddL|fail) only[go_sem,simprocAttr,Tryz.f25,he1,hto])
    all_goals (try (exfalso;omega))
    all_goals
     have b1:nl2≠nl1:=by assumption
     have b2:nl2≠m:=by assumption
     have b3:nl2≠l:=by assumption
     have b4:nl2≠q:=by assumption
     have b1':=Ne.symm b1
     have b2':=Ne.symm b2
     have b3':=Ne.symm b3
     have b4':=Ne.symm b4
    all_goals
     refine aD (α:=Nat × Nat × List (List MV)) (fun z=>⟨106,[(66,.int .i64 (z.1:Int)),(65,.int .i64 (B.cards.length:Int)),(64,.lst 27 (B.cards.map CA.c) false),(8,.vec 1 z.2.1 0 z.1),(7,.ptr nl2 0 0),(1,.ptr nl1 0 0)],[]⟩)
      (fun z=>((((((St.none.set nl1 (.row 26 5 [B.c])).set m (.mp (cEs B.cards))).set l (shO B.nx m (.vec 3 q 0 B.dead.length))).set q (.row 166 3 (B.dead.map DE.c++ex))).set nl2 (eW B.sq l .aT))).set z.2.1 (.row 3 1 ((K.take z.1).map aR++z.2.2))) (fun z=>z.1≤B.cards.length∧z.2.1≠nl1∧z.2.1≠m∧z.2.1≠l∧z.2.1≠q∧z.2.1≠nl2) (fun z=>B.cards.length - z.1) ?_ ?_
     ·refine Gh.Bd 3 1 (fun r=>[(66,.int .i64 0),(65,.int .i64 (B.cards.length:Int)),(64,.lst 27 (B.cards.map CA.c) false),(8,.vec 1 r 0 0),(7,.ptr nl2 0 0),(1,.ptr nl1 0 0)]) (fun k=>by(repeat' (refine And.intro ?_ ?_))<;>first|exact trivial|exact .inl rfl|exact .inr ⟨rfl,.inl rfl⟩|exact .inr ⟨rfl,.inr rfl⟩) fun r hr=>?_
      simp only[aY] at hr
      obtain⟨r1,r2,r3,r4,r5,-⟩:=hr
      exact .done ⟨(0,r,[]),rfl,rfl,Nat.zero_le _,by assumption,by assumption,by assumption,by assumption,by assumption⟩
     ·rintro⟨i,r,xx⟩ ⟨hi,r1,r2,r3,r4,r5⟩
      simp only at hi r1 r2 r3 r4 r5 ⊢
      have r1':=Ne.symm r1
      have r2':=Ne.symm r2
      have r3':=Ne.symm r3
      have r4':=Ne.symm r4
      have r5':=Ne.symm r5
      by_cases hlt:i<B.cards.length
      ·obtain⟨x,hx⟩:=bC B.cards hlt
       have hat:=aV (f:=CA.c) hx
       have hKx:K[i]?=some x.id:=by rw[←hK];exact fM hx
       have htk:=aO hKx
       have hLl:(K.take i).length=i:=by rw[List.length_take];omega
       obtain⟨L,hL⟩:∃L,K.take i=L:=⟨_,rfl⟩
       rw[hL] at htk hLl ⊢
       have hLm:(L.map aR).length=i:=by rw[List.length_map,hLl]
       have hdr:(L.map aR++xx).drop (i+1)=xx.drop 1:=by rw[←hLl];exact kS
       have htk':(L.map aR++xx).take i=L.map aR:=by rw[←hLl];exact j8
       repeat' (first|(with_reducible first|(refine wT ?_;(first|((fail_if_success (have:=nl1));refine wN fun nl1 hnl=>?_)|((fail_if_success (have:=nl2));refine wN fun nl2 hnl=>?_)|((fail_if_success (have:=nl3));refine wN fun nl3 hnl=>?_)|((fail_if_success (have:=nl4));refine wN fun nl4 hnl=>?_)|((fail_if_success (have:=nl5));refine wN fun nl5 hnl=>?_)|refine wN fun _ hnl=>?_);revert hnl;(repeat refine wS fun _ _=>?_);intro hnl)|refine wE ?_|(refine wK ?_ ?_<;>intro h)|(refine wB ?_ ?_<;>intro h<;>simp only[h]))|simp(maxSteps:=4000000) (disch:=first|exact ddL|fail) only[go_sem,simprocAttr,FYs,hat,hLm,hLl,htk',hdr])
       all_goals (try (exfalso;omega))
       all_goals
        have p1:nl5≠nl1:=by assumption
        have p2:nl5≠m:=by assumption
        have p3:nl5≠l:=by assumption
        have p4:nl5≠q:=by assumption
        have p5:nl5≠nl2:=by assumption
        clear hat htk' hdr hend hbad he1 he2 hc hgc
       ·have hex:xx=[]:=List.eq_nil_of_length_eq_zero (by omega)
        subst hex
        refine .of (.less ?_ ?_) ⟨(i+1,nl5,[]),rfl,rfl,⟨by simp only;omega,p1,p2,p3,p4,p5⟩,by simp only;omega⟩
        ·simp(maxSteps:=4000000) (disch:=first|exact ddL|fail) only[go_sem,simprocAttr,aC,aB]
         all_goals first|rfl|(simp;done)
        ·rw[htk]
         clear h
         exact St.aL (St.aL (St.aL (St.aL (St.aL (St.aL (St.none_le _) (by simp[St.set, *])) (by simp[St.set, *])) (by simp[St.set, *])) (by simp[St.set, *])) (by simp[St.set, *])) (by simp[St.set, *])
       ·refine .of (.less ?_ ?_) ⟨(i+1,nl5,xx.drop 1),rfl,rfl,⟨by simp only;omega,p1,p2,p3,p4,p5⟩,by simp only;omega⟩
        ·simp(maxSteps:=4000000) (disch:=first|exact ddL|fail) only[go_sem,simprocAttr,aC,aB]
         all_goals first|rfl|(simp;done)
        ·rw[htk]
         exact St.aL (St.aL (St.aL (St.aL (St.aL (St.aL (St.none_le _) (by simp[St.set, *])) (by simp[St.set, *])) (by simp[St.set, *])) (by simp[St.set, *])) (by simp[St.set, *])) (by simp[St.set, *])
      ·have:i=B.cards.length:=by omega
       subst this
       have htl:K.take B.cards.length=K:=by rw[←hKl];exact List.take_length
       rw[htl]
       repeat' (first|(with_reducible first|(refine wT ?_;(first|((fail_if_success (have:=nl1));refine wN fun nl1 hnl=>?_)|((fail_if_success (have:=nl2));refine wN fun nl2 hnl=>?_)|((fail_if_success (have:=nl3));refine wN fun nl3 hnl=>?_)|((fail_if_success (have:=nl4));refine wN fun nl4 hnl=>?_)|((fail_if_success (have:=nl5));refine wN fun nl5 hnl=>?_)|refine wN fun _ hnl=>?_);revert hnl;(repeat refine wS fun _ _=>?_);intro hnl)|refine wE ?_|(refine wK ?_ ?_<;>intro h)|(refine wB ?_ ?_<;>intro h<;>simp only[h]))|simp(maxSteps:=4000000) (disch:=first|exact ddL|fail) only[go_sem,simprocAttr])
       refine aD (α:=Nat × Nat × List (List MV)) (fun z=>⟨106,[(79,.int .i64 (z.1:Int)),(78,.int .i64 (B.gr.length:Int)),(77,.lst 2 (B.gr.map GR.c) false),(8,.lst 1 (K.map aR) false),(7,.ptr nl2 0 0)],[]⟩)
        (fun z=>(((((St.none.set m (.mp (cEs B.cards))).set l (shO B.nx m (.vec 3 q 0 B.dead.length))).set q (.row 166 3 (B.dead.map DE.c++ex))).set nl2 (eW B.sq l (.vec 2 z.2.1 0 z.1)))).set z.2.1 (.row 170 2 ((B.gr.take z.1).map GR.c++z.2.2))) (fun z=>z.1≤B.gr.length∧z.2.1≠m∧z.2.1≠l∧z.2.1≠q∧z.2.1≠nl2∧∀g,g∈B.gr.take z.1→cG g.mem K=[]) (fun z=>B.gr.length - z.1) ?_ ?_
       ·refine .step (bV.freeze (l1:=[(79,.int .i64 0),(78,.int .i64 (B.gr.length:Int)),(77,.lst 2 (B.gr.map GR.c) false),(8,.lst 1 (K.map aR) false),(7,.ptr nl2 0 0)]) (σ1:=(((St.none.set m (.mp (cEs B.cards))).set l (shO B.nx m (.vec 3 q 0 B.dead.length))).set q (.row 166 3 (B.dead.map DE.c++ex))).set nl2 (eW B.sq l .aT)) (St.none.set r (.row 3 1 (K.map aR++xx))) (St.aL (St.none_le _) (aM _ _ _))
         (St.aL (St.aL (St.aL (St.aL (St.none_le _) (by simp[St.set, *])) (by simp[St.set, *])) (by simp[St.set, *])) (by simp[St.set, *])) (fun k o hk=>?_) (fun p hp=>?_)) (Gh.De (b:=nl2) (t:=168) (e:=3) (pre:=[.int .i64 B.sq,.ptr l 0 0]) (post:=[]) 170 2 (by simp[St.set]) fun z hz=>?_)
        ·refine aH _ _ _ _ fun e=>?_
         subst e
         simp[St.set,St.none, *] at hk
        ·simp only[List.mem_cons,List.not_mem_nil,or_false] at hp
         rcases hp with rfl|rfl|rfl|rfl|rfl
         ·exact .same _
         ·exact .same _
         ·exact .same _
         ·exact dW (aM _ _ _) (by rw[List.length_map,hKl])
         ·exact .same _
        ·simp only[aY] at hz
         obtain⟨z1,z2,z3,z4,-⟩:=hz
         have z1':=Ne.symm z1
         have z2':=Ne.symm z2
         have z3':=Ne.symm z3
         have z4':=Ne.symm z4
         refine .of (.less ?_ (St.aL (St.aL (St.aL (St.aL (St.aL (St.none_le _) (by simp[St.set, *])) (by simp[St.set, *])) (by simp[St.set, *])) (by simp[St.set, *])) (by simp[St.set, *]))) ⟨(0,z,[]),rfl,rfl,Nat.zero_le _,by assumption,by assumption,by assumption,by assumption,by simp⟩
         simp(maxSteps:=4000000) (disch:=first|exact ddL|fail) only[go_sem,simprocAttr,aC,aB]
         all_goals first|rfl|(simp;done)
       ·clear r1 r2 r3 r4 r5 r1' r2' r3' r4' r5' hi hlt htl
        rintro⟨i,z,xx⟩ ⟨hi,z2,z3,z4,z5,hall⟩
        simp only at hi z2 z3 z4 z5 hall ⊢
        have z2':=Ne.symm z2
        have z3':=Ne.symm z3
        have z4':=Ne.symm z4
        have z5':=Ne.symm z5
        by_cases hlt:i<B.gr.length
        ·obtain⟨x,hx⟩:=bC B.gr hlt
         have hat:=aV (f:=GR.c) hx
         obtain⟨-,-,-,hxo⟩:=Aw hgk hx 0
         have hmin:=C3 x.mem K (h4 x (bR hx)) (by rw[hKl];exact h1) (FT hxo).1 (by rw[←hK];exact hup) false false
         have hcl:=BC x.mem (h4 x (bR hx)) false
         have hbx:=hbad x (bR hx)
         rw[hK] at hbx
         obtain⟨M,hM⟩:∃M,cG x.mem K=M:=⟨_,rfl⟩
         rw[hM] at hmin hbx
         by_cases hM0:M=[]
         ·subst hM0
          have htk:=aO hx
          have hLl:(B.gr.take i).length=i:=by rw[List.length_take];omega
          have hnew:∀g,g∈B.gr.take (i+1)→cG g.mem K=[]:=fun g hg=>by
           rw[htk,List.mem_append,List.mem_singleton] at hg
           rcases hg with hg|rfl
           ·exact hall g hg
           ·exact hM
          obtain⟨L,hL⟩:∃L,B.gr.take i=L:=⟨_,rfl⟩
          rw[hL] at htk hLl hall ⊢
          have hLm:(L.map GR.c).length=i:=by rw[List.length_map,hLl]
          have hdr:(L.map GR.c++xx).drop (i+1)=xx.drop 1:=by rw[←hLl];exact kS
          have htk':(L.map GR.c++xx).take i=L.map GR.c:=by rw[←hLl];exact j8
          obtain⟨C,c1⟩:∃C:bP,∀ms,C 98 ms=some ⟨[],fun v=>v=.lst 1 (x.mem.map aR) false,none⟩:=⟨lO 98 (.lst 1 (x.mem.map aR) false),fun _=>cM⟩
          repeat' (first|((with_reducible refine aJ mixed ?chk C ?_);(case chk=>decide +kernel))|(with_reducible refine aF (c1 _) hcl ?_)|(with_reducible first|refine up hmin ?_)|(with_reducible first|(refine wT ?_;(first|((fail_if_success (have:=nl1));refine wN fun nl1 hnl=>?_)|((fail_if_success (have:=nl2));refine wN fun nl2 hnl=>?_)|((fail_if_success (have:=nl3));refine wN fun nl3 hnl=>?_)|((fail_if_success (have:=nl4));refine wN fun nl4 hnl=>?_)|((fail_if_success (have:=nl5));refine wN fun nl5 hnl=>?_)|refine wN fun _ hnl=>?_);revert hnl;(repeat refine wS fun _ _=>?_);intro hnl)|refine wE ?_|(refine wK ?_ ?_<;>intro h)|(refine wB ?_ ?_<;>intro h<;>simp only[h]))|simp(maxSteps:=4000000) (disch:=first|exact ddL|fail) only[go_sem,simprocAttr,FYs,hat,hLm,hLl,htk',hdr])
          all_goals (try (exfalso;omega))
          all_goals
           have p2:nl5≠m:=by assumption
           have p3:nl5≠l:=by assumption
           have p4:nl5≠q:=by assumption
           have p5:nl5≠nl2:=by assumption
           clear hat htk' hdr hend hbad he1 he2 hc hgc hall hmin hcl c1 hbx
          ·have hex:xx=[]:=List.eq_nil_of_length_eq_zero (by omega)
           subst hex
           refine .of (.less ?_ ?_) ⟨(i+1,nl5,[]),rfl,rfl,⟨by simp only;omega,p2,p3,p4,p5,hnew⟩,by simp only;omega⟩
           ·simp(maxSteps:=4000000) (disch:=first|exact ddL|fail) only[go_sem,simprocAttr,aC,aB]
            all_goals first|rfl|(simp;done)
           ·rw[htk]
            clear h hnew
            exact St.aL (St.aL (St.aL (St.aL (St.aL (St.none_le _) (by simp[St.set, *])) (by simp[St.set, *])) (by simp[St.set, *])) (by simp[St.set, *])) (by simp[St.set, *])
          ·refine .of (.less ?_ ?_) ⟨(i+1,nl5,xx.drop 1),rfl,rfl,⟨by simp only;omega,p2,p3,p4,p5,hnew⟩,by simp only;omega⟩
           ·simp(maxSteps:=4000000) (disch:=first|exact ddL|fail) only[go_sem,simprocAttr,aC,aB]
            all_goals first|rfl|(simp;done)
           ·rw[htk]
            clear h hnew
            exact St.aL (St.aL (St.aL (St.aL (St.aL (St.none_le _) (by simp[St.set, *])) (by simp[St.set, *])) (by simp[St.set, *])) (by simp[St.set, *])) (by simp[St.set, *])
         ·have hM1:0<M.length:=List.length_pos_iff.2 hM0
          have hf:=hbx hM0
          repeat' (first|(with_reducible first|refine up hmin ?_)|(with_reducible first|(refine wT ?_;(first|((fail_if_success (have:=nl1));refine wN fun nl1 hnl=>?_)|((fail_if_success (have:=nl2));refine wN fun nl2 hnl=>?_)|((fail_if_success (have:=nl3));refine wN fun nl3 hnl=>?_)|((fail_if_success (have:=nl4));refine wN fun nl4 hnl=>?_)|((fail_if_success (have:=nl5));refine wN fun nl5 hnl=>?_)|refine wN fun _ hnl=>?_);revert hnl;(repeat refine wS fun _ _=>?_);intro hnl)|refine wE ?_|(refine wK ?_ ?_<;>intro h)|(refine wB ?_ ?_<;>intro h<;>simp only[h]))|simp(maxSteps:=4000000) (disch:=first|exact ddL|fail) only[go_sem,simprocAttr,hat])
          all_goals first|exact F7 hf|(exfalso;omega)
        ·have:i=B.gr.length:=by omega
         subst this
         have hok:=hend _ hi (by rw[hK];exact hall) rfl
         rw[List.take_length]
         repeat' (first|(with_reducible first|(refine wT ?_;(first|((fail_if_success (have:=nl1));refine wN fun nl1 hnl=>?_)|((fail_if_success (have:=nl2));refine wN fun nl2 hnl=>?_)|((fail_if_success (have:=nl3));refine wN fun nl3 hnl=>?_)|((fail_if_success (have:=nl4));refine wN fun nl4 hnl=>?_)|((fail_if_success (have:=nl5));refine wN fun nl5 hnl=>?_)|refine wN fun _ hnl=>?_);revert hnl;(repeat refine wS fun _ _=>?_);intro hnl)|refine wE ?_|(refine wK ?_ ?_<;>intro h)|(refine wB ?_ ?_<;>intro h<;>simp only[h]))|simp(maxSteps:=4000000) (disch:=first|exact ddL|fail) only[go_sem,simprocAttr])
         refine .of (bV.Hu z nl2 [.int .i64 B.sq,.ptr l 0 0] [] (aM _ _ _) (by simp[St.set,z5',z5];rfl) z5' (dW (aM _ _ _) (by rw[List.length_map])) rfl
          (σ1:=bkS m l q nl2 B ex) (l1:=[(0,.tup [.ptr nl2 0 0,.bool true])]) (aM _ _ _) (fun k o hk=>?_) (fun p hp=>by simp only[List.mem_singleton] at hp;subst hp;exact .same _)) ⟨_,rfl,.inl ⟨hok,m,l,q,nl2,ex,⟨hlm,hqm,hql,b2,b3,b4⟩,rfl,rfl⟩⟩
         by_cases k1:k=nl2
         ·subst k1;exact⟨z5',.inl rfl⟩
         ·have hk:shS B.nx m l q B.cards B.dead ex k=some o:=(aH _ _ _ _ k1).symm.trans hk
          have k2:k≠z:=fun e=>by
           subst e
           simp[St.set,St.none,z2,z3,z4] at hk
          refine⟨k2,.inr ?_⟩
          rw[aH _ _ _ _ k2,aH _ _ _ _ k1]
          exact hk
end

section
set_option maxRecDepth 100000
set_option maxHeartbeats 8000000
def DQ(l:List Int)(x:Int):Nat:=(l.filter fun y=>decide (y<x)).length
theorem JM{l:List Int}{x:Int}{i:Nat}(hi:i≤l.length)(h1:∀q,q<i→l.getD q 0<x)(h2:∀q,i≤q→q<l.length→¬l.getD q 0<x):DQ l x=i:=by
 unfold DQ
 rw[←List.take_append_drop i l,List.filter_append,List.filter_eq_self.2,List.filter_eq_nil_iff.2,List.append_nil,List.length_take]
 ·omega
 ·intro y hy
  obtain⟨k,hk⟩:=List.mem_iff_getElem?.1 hy
  rw[List.getElem?_drop] at hk
  have:=(List.getElem?_eq_some_iff.1 hk).1
  have h:=h2 (i+k) (by omega) this
  rw[List.getD_eq_getElem?_getD,hk] at h
  simpa using h
 ·intro y hy
  obtain⟨k,hk⟩:=List.mem_iff_getElem?.1 hy
  rw[List.getElem?_take] at hk
  split at hk
  ·rename_i hki
   have h:=h1 k hki
   rw[List.getD_eq_getElem?_getD,hk] at h
   simpa using h
  ·cases hk
theorem Ht{l:List Int}{x:Int}{i:Nat}(hu:UpI l)(h1:∀q,q<i→l.getD q 0<x)(h2:∀q,i≤q→q<l.length→¬l.getD q 0<x):x∈l↔i<l.length∧l.getD i 0=x:=by
 constructor
 ·intro hm
  obtain⟨p,hp,hx⟩:=List.mem_iff_getElem.1 hm
  have e:l.getD p 0=x:=by rw[List.getD_eq_getElem?_getD,List.getElem?_eq_getElem hp,←hx];rfl
  have hip:i≤p:=Nat.le_of_not_lt fun hlt=>by have:=h1 p hlt;omega
  rcases Nat.lt_or_ge i p with hlt|hge
  ·have h3:=List.pairwise_iff_getElem.1 hu i p (by omega) hp hlt
   have h4:=h2 i (Nat.le_refl _) (by omega)
   rw[List.getD_eq_getElem?_getD,List.getElem?_eq_getElem (by omega:i<l.length)] at h4
   simp at h4
   omega
  ·have:i=p:=by omega
   subst this
   exact⟨hp,e⟩
 ·rintro⟨hi,e⟩
  rw[←e,List.getD_eq_getElem?_getD,List.getElem?_eq_getElem hi]
  exact List.getElem_mem hi
theorem Ew(a b:Int):aA Tryz.prog 281 [.int .i64 a,.int .i64 b] St.none (fun r _=>r=.bool (decide (a<b))):=by
 refine(aA.body 17 [.tmp 4] Tryz.func281 rfl rfl rfl rfl ?_)
 have h:=sO a
 repeat' (first|(with_reducible first|refine up h ?_)|(with_reducible first|(refine wN fun _ hnl=>?_;revert hnl;(repeat refine wS fun _ _=>?_);intro hnl)|refine wE ?_|(refine wK ?_ ?_<;>intro h)|(refine wB ?_ ?_<;>intro h<;>simp only[h]))|simp(maxSteps:=4000000) (disch:=first|exact ddL|fail) only[go_sem,simprocAttr,Tryz.f281])
theorem vH(a:Int):aA Tryz.prog 282 [.int .i64 a] St.none (fun r _=>r=.bool false):=by
 refine(aA.body 6 [.tmp 2] Tryz.func282 rfl rfl rfl rfl ?_)
 repeat' (first|(with_reducible first|(refine wN fun _ hnl=>?_;revert hnl;(repeat refine wS fun _ _=>?_);intro hnl)|refine wE ?_|(refine wK ?_ ?_<;>intro h)|(refine wB ?_ ?_<;>intro h<;>simp only[h]))|simp(maxSteps:=4000000) (disch:=first|exact ddL|fail) only[go_sem,simprocAttr,Tryz.f282,lM])
theorem zA(l:List Int){m:Nat}(h:m<l.length):(l.map aR).getD m []=aR (l.getD m 0):=by
 obtain⟨x,hx⟩:=bC l h
 rw[aV (f:=aR) hx,List.getD_eq_getElem?_getD,hx];rfl
theorem Lv(l:List Int)(hl:l.length≤1000000)(hu:UpI l)(x:Int)(t:Bool):aA Tryz.prog 202 [.lst 1 (l.map aR) t,.int .i64 x] St.none (fun r _=>r=.tup [.int .i64 (DQ l x:Int),.bool (decide (x∈l))]):=by
 refine(aA.body 54 [.tmp 4,.tmp 5] Tryz.func202 rfl rfl rfl rfl ?_)
 repeat' (first|(with_reducible first|(refine wN fun _ hnl=>?_;revert hnl;(repeat refine wS fun _ _=>?_);intro hnl)|refine wE ?_|(refine wK ?_ ?_<;>intro h)|(refine wB ?_ ?_<;>intro h<;>simp only[h]))|simp(maxSteps:=4000000) (disch:=first|exact ddL|fail) only[go_sem,simprocAttr,Tryz.f202])
 refine aD (α:=Nat × Nat) (fun a=>⟨54,[(7,.int .i64 (a.1:Int)),(8,.int .i64 (a.2:Int)),(6,.int .i64 (l.length:Int)),(1,.int .i64 x),(0,.lst 1 (l.map aR) t)],[]⟩)
  (fun _=>St.none) (fun a=>a.1≤a.2∧a.2≤l.length∧(∀q,q<a.1→l.getD q 0<x)∧(∀q,a.2≤q→q<l.length→¬l.getD q 0<x)) (fun a=>a.2 - a.1) (.of (.less ?_ (St.le_refl _)) ⟨(0,l.length),rfl,rfl,by simp;omega⟩) ?_
 ·simp(maxSteps:=4000000) (disch:=first|exact ddL|fail) only[go_sem,simprocAttr,aC,aB]
  all_goals first|rfl|omega|simp
 ·rintro⟨i,j⟩ ⟨h1,h2,h3,h4⟩
  simp only at h1 h2 h3 h4 ⊢
  by_cases hij:i<j
  ·have hh:=half i j
   have hm1:i≤(i+j) / 2:=by omega
   have hm2:(i+j) / 2<j:=by omega
   obtain⟨m,hm⟩:∃m,(i+j) / 2=m:=⟨_,rfl⟩
   rw[hm] at hh hm1 hm2
   have hml:m<l.length:=by omega
   have hat:=zA l hml
   have hup:∀a b,a<b→b<l.length→l.getD a 0<l.getD b 0:=fun a b hab hb=>by
    have:=List.pairwise_iff_getElem.1 hu a b (by omega) hb hab
    rw[List.getD_eq_getElem?_getD,List.getD_eq_getElem?_getD,List.getElem?_eq_getElem (by omega:a<l.length),List.getElem?_eq_getElem hb]
    exact this
   have hord:=Ew (l.getD m 0) x
   by_cases hless:l.getD m 0<x
   ·have hnew:∀q,q<m+1→l.getD q 0<x:=fun q hq=>by
     rcases Nat.lt_or_ge q m with hlt|hge
     ·have:=hup q m hlt hml;omega
     ·have:q=m:=by omega
      rw[this];exact hless
    obtain⟨y,hy⟩:∃y,l.getD m 0=y:=⟨_,rfl⟩
    rw[hy] at hat hord hless
    repeat' (first|(with_reducible first|refine up hord ?_)|(with_reducible first|(refine wN fun _ hnl=>?_;revert hnl;(repeat refine wS fun _ _=>?_);intro hnl)|refine wE ?_|(refine wK ?_ ?_<;>intro h)|(refine wB ?_ ?_<;>intro h<;>simp only[h]))|simp(maxSteps:=4000000) (disch:=first|exact ddL|fail) only[go_sem,simprocAttr,hat,hh])
    all_goals (try (exfalso;omega))
    refine .of (.less (l1:=[(7,.int .i64 ((m+1:Nat):Int)),(8,.int .i64 (j:Int)),(6,.int .i64 (l.length:Int)),(1,.int .i64 x),(0,.lst 1 (l.map aR) t)]) ?_ (St.le_refl _)) ⟨(m+1,j),rfl,rfl,⟨by simp only;omega,h2,hnew,h4⟩,by simp only;omega⟩
    simp(maxSteps:=4000000) (disch:=first|exact ddL|fail) only[go_sem,simprocAttr,aC,aB]
    all_goals omega
   ·have hnew:∀q,m≤q→q<l.length→¬l.getD q 0<x:=fun q hq hql=>by
     rcases Nat.lt_or_ge m q with hlt|hge
     ·have:=hup m q hlt hql;omega
     ·have:q=m:=by omega
      rw[this];exact hless
    obtain⟨y,hy⟩:∃y,l.getD m 0=y:=⟨_,rfl⟩
    rw[hy] at hat hord hless
    repeat' (first|(with_reducible first|refine up hord ?_)|(with_reducible first|(refine wN fun _ hnl=>?_;revert hnl;(repeat refine wS fun _ _=>?_);intro hnl)|refine wE ?_|(refine wK ?_ ?_<;>intro h)|(refine wB ?_ ?_<;>intro h<;>simp only[h]))|simp(maxSteps:=4000000) (disch:=first|exact ddL|fail) only[go_sem,simprocAttr,hat,hh])
    all_goals (try (exfalso;omega))
    refine .of (.less (l1:=[(7,.int .i64 (i:Int)),(8,.int .i64 (m:Int)),(6,.int .i64 (l.length:Int)),(1,.int .i64 x),(0,.lst 1 (l.map aR) t)]) ?_ (St.le_refl _)) ⟨(i,m),rfl,rfl,⟨hm1,by simp only;omega,h3,hnew⟩,by simp only;omega⟩
    simp(maxSteps:=4000000) (disch:=first|exact ddL|fail) only[go_sem,simprocAttr,aC,aB]
  ·have:i=j:=by omega
   subst this
   have hp:=Ht hu h3 h4
   rw[JM h2 h3 h4]
   by_cases hil:i<l.length
   ·have hat:=zA l hil
    have hn:=vH (l.getD i 0)
    have hnx:=vH x
    by_cases he:l.getD i 0=x
    ·rw[decide_eq_true (hp.2 ⟨hil,he⟩)]
     obtain⟨y,hy⟩:∃y,l.getD i 0=y:=⟨_,rfl⟩
     rw[hy] at hat hn he
     repeat' (first|(with_reducible first|refine up hn ?_|refine up hnx ?_)|(with_reducible first|(refine wN fun _ hnl=>?_;revert hnl;(repeat refine wS fun _ _=>?_);intro hnl)|refine wE ?_|(refine wK ?_ ?_<;>intro h)|(refine wB ?_ ?_<;>intro h<;>simp only[h]))|simp(maxSteps:=4000000) (disch:=first|exact ddL|fail) only[go_sem,simprocAttr,hat])
     all_goals (try (exfalso;omega))
     all_goals (first|rfl|(simp;omega))
    ·rw[decide_eq_false fun h=>he (hp.1 h).2]
     obtain⟨y,hy⟩:∃y,l.getD i 0=y:=⟨_,rfl⟩
     rw[hy] at hat hn he
     repeat' (first|(with_reducible first|refine up hn ?_|refine up hnx ?_)|(with_reducible first|(refine wN fun _ hnl=>?_;revert hnl;(repeat refine wS fun _ _=>?_);intro hnl)|refine wE ?_|(refine wK ?_ ?_<;>intro h)|(refine wB ?_ ?_<;>intro h<;>simp only[h]))|simp(maxSteps:=4000000) (disch:=first|exact ddL|fail) only[go_sem,simprocAttr,hat])
     all_goals (try (exfalso;omega))
     all_goals (first|rfl|(simp;omega))
   ·rw[decide_eq_false fun h=>hil (hp.1 h).1]
    repeat' (first|(with_reducible first|(refine wN fun _ hnl=>?_;revert hnl;(repeat refine wS fun _ _=>?_);intro hnl)|refine wE ?_|(refine wK ?_ ?_<;>intro h)|(refine wB ?_ ?_<;>intro h<;>simp only[h]))|simp(maxSteps:=4000000) (disch:=first|exact ddL|fail) only[go_sem,simprocAttr])
    all_goals (try (exfalso;omega))
    all_goals (first|rfl|(simp;omega))
theorem C1(l:List Int)(hl:l.length≤1000000)(hu:UpI l)(x:Int)(t:Bool):aA Tryz.prog 275 [.lst 1 (l.map aR) t,.int .i64 x] St.none (fun r _=>r=.bool (decide (x∈l))):=by
 refine(aA.body 14 [.tmp 4] Tryz.func275 rfl rfl rfl rfl ?_)
 have h:=Lv l hl hu x t
 repeat' (first|(with_reducible first|refine up h ?_)|(with_reducible first|(refine wN fun _ hnl=>?_;revert hnl;(repeat refine wS fun _ _=>?_);intro hnl)|refine wE ?_|(refine wK ?_ ?_<;>intro h)|(refine wB ?_ ?_<;>intro h<;>simp only[h]))|simp(maxSteps:=4000000) (disch:=first|exact ddL|fail) only[go_sem,simprocAttr,Tryz.f275])
theorem CX(s n:Nat)(hs:s<4294967296)(hn:n<32):aA Tryz.prog 276 [.int .u32 (s:Int),.int .i64 (n:Int)] St.none (fun r _=>r=.int .u32 ((s ||| 2 ^ n:Nat):Int)):=by
 refine(aA.body 9 [.tmp 4] Tryz.func276 rfl rfl rfl rfl ?_)
 have h:=zT n hn
 have ho:=QT s (2 ^ n) hs (Nat.pow_lt_pow_right (a:=2) (n:=32) (by decide) hn)
 generalize ((2 ^ n:Nat):Int)=y at h ho
 repeat' (first|(with_reducible first|refine up h ?_)|(with_reducible first|(refine wN fun _ hnl=>?_;revert hnl;(repeat refine wS fun _ _=>?_);intro hnl)|refine wE ?_|(refine wK ?_ ?_<;>intro h)|(refine wB ?_ ?_<;>intro h<;>simp only[h]))|simp(maxSteps:=4000000) (disch:=first|exact ddL|fail) only[go_sem,simprocAttr,Tryz.f276,ho])
theorem Fm(l:List GR)(tt:Bool)(hl:l.length≤1000000)(hm:∀g,g∈l→g.mem.length≤1000000)(hok:dQ (-1) l=true)(id:Int):aA Tryz.prog 193 [.lst 2 (l.map GR.c) tt,.int .i64 id] St.none (fun r _=>r=.int .u32 (grB l id:Int)):=by
 refine aA.bF (aA.body 24 [.tmp 4] Tryz.func193 rfl rfl rfl rfl ?_)
 repeat' (first|(with_reducible first|(refine wN fun _ hnl=>?_;revert hnl;(repeat refine wS fun _ _=>?_);intro hnl)|refine wE ?_|(refine wK ?_ ?_<;>intro h)|(refine wB ?_ ?_<;>intro h<;>simp only[h]))|simp(maxSteps:=4000000) (disch:=first|exact ddL|fail) only[go_sem,simprocAttr,Tryz.f193])
 refine aD (α:=Nat) (fun i=>⟨24,[(10,.int .i64 (i:Int)),(9,.int .i64 (l.length:Int)),(8,.lst 2 (l.map GR.c) tt),(5,.int .u32 (grB (l.take i) id:Int)),(1,.int .i64 id)],[]⟩)
  (fun _=>St.none) (fun i=>i≤l.length) (fun i=>l.length - i) (.of (.less ?_ (St.le_refl _)) ⟨0,rfl,rfl,Nat.zero_le _⟩) ?_
 ·simp(maxSteps:=4000000) (disch:=first|exact ddL|fail) only[go_sem,simprocAttr,aC,aB]
  all_goals rfl
 ·intro i hi
  have hi:i≤l.length:=hi
  by_cases hlt:i<l.length
  ·obtain⟨x,hx⟩:=bC l hlt
   have hat:=aV (f:=GR.c) hx
   obtain⟨g1,g2,g3,g4⟩:=Aw hok hx id
   have hsn:=uR hx id
   unfold grF at hsn
   obtain⟨n,hn⟩:∃n:Nat,x.no=n:=⟨x.no.toNat,by omega⟩
   have hh:=C1 x.mem (hm x (bR hx)) (FT g4).1 id false
   have g5:grB (l.take i) id<4294967296:=Nat.lt_trans g1 (Nat.pow_lt_pow_right (a:=2) (n:=32) (by decide) (by omega))
   have hw:=CX (grB (l.take i) id) n g5 (by omega)
   obtain⟨s,hs⟩:∃s,grB (l.take i) id=s:=⟨_,rfl⟩
   rw[hs] at hsn hw ⊢
   rw[hn,Int.toNat_natCast] at hsn
   by_cases hin:id∈x.mem
   ·rw[if_pos hin] at hsn
    rw[decide_eq_true hin] at hh
    repeat' (first|(with_reducible first|refine up hh ?_|refine up hw ?_)|(with_reducible first|(refine wN fun _ hnl=>?_;revert hnl;(repeat refine wS fun _ _=>?_);intro hnl)|refine wE ?_|(refine wK ?_ ?_<;>intro h)|(refine wB ?_ ?_<;>intro h<;>simp only[h]))|simp(maxSteps:=4000000) (disch:=first|exact ddL|fail) only[go_sem,simprocAttr,hat,hn])
    all_goals (try (exfalso;omega))
    all_goals
     refine .of (.less ?_ (St.none_le _)) ⟨i+1,rfl,rfl,(by omega:i+1≤l.length),by omega⟩
     rw[hsn]
     simp(maxSteps:=4000000) (disch:=first|exact ddL|fail) only[go_sem,simprocAttr,aC,aB]
     all_goals first|rfl|(simp;done)
   ·rw[if_neg hin] at hsn
    rw[decide_eq_false hin] at hh
    repeat' (first|(with_reducible first|refine up hh ?_)|(with_reducible first|(refine wN fun _ hnl=>?_;revert hnl;(repeat refine wS fun _ _=>?_);intro hnl)|refine wE ?_|(refine wK ?_ ?_<;>intro h)|(refine wB ?_ ?_<;>intro h<;>simp only[h]))|simp(maxSteps:=4000000) (disch:=first|exact ddL|fail) only[go_sem,simprocAttr,hat,hn])
    all_goals (try (exfalso;omega))
    all_goals
     refine .of (.less ?_ (St.none_le _)) ⟨i+1,rfl,rfl,(by omega:i+1≤l.length),by omega⟩
     rw[hsn]
     simp(maxSteps:=4000000) (disch:=first|exact ddL|fail) only[go_sem,simprocAttr,aC,aB]
     all_goals first|rfl|(simp;done)
  ·have:i=l.length:=by omega
   subst this
   rw[List.take_length]
   repeat' (first|(with_reducible first|(refine wN fun _ hnl=>?_;revert hnl;(repeat refine wS fun _ _=>?_);intro hnl)|refine wE ?_|(refine wK ?_ ?_<;>intro h)|(refine wB ?_ ?_<;>intro h<;>simp only[h]))|simp(maxSteps:=4000000) (disch:=first|exact ddL|fail) only[go_sem,simprocAttr])
   all_goals first|exact⟨_,St.le_refl _,rfl⟩|exact⟨_,St.le_refl _⟩
end

section
set_option maxRecDepth 100000
set_option maxHeartbeats 8000000
theorem CW(sq:Int)(l b:Nat)(g:MV):aA Tryz.prog 123 [.ptr b 0 0] (St.none.set b (eW sq l g)) (fun v σ'=>v=.int .i64 sq∧σ'=St.none.set b (eW sq l g)):=by
 refine(aA.body 9 [.tmp 2] Tryz.func123 rfl rfl rfl rfl ?_)
 repeat' (first|(with_reducible first|(refine wN fun _ hnl=>?_;revert hnl;(repeat refine wS fun _ _=>?_);intro hnl)|refine wE ?_|(refine wK ?_ ?_<;>intro h)|(refine wB ?_ ?_<;>intro h<;>simp only[h]))|simp(maxSteps:=4000000) (disch:=first|exact ddL|fail) only[go_sem,simprocAttr,Tryz.f123])
 all_goals exact⟨rfl,rfl⟩
theorem nA(sq:Int)(l b:Nat)(gr:List GR)(h3:gr.length≤1000000)(h4:∀g,g∈gr→g.mem.length≤1000000)(hok:dQ (-1) gr=true)(id:Int) :
  aA Tryz.prog 103 [.ptr b 0 0,.int .i64 id] (St.none.set b (eW sq l (.lst 2 (gr.map GR.c) false))) (fun v σ'=>v=.int .u32 (grB gr id:Int)∧σ'=St.none.set b (eW sq l (.lst 2 (gr.map GR.c) false))):=by
 refine(aA.body 13 [.tmp 4] Tryz.func103 rfl rfl rfl rfl ?_)
 have h:=Fm gr false h3 h4 hok id
 repeat' (first|(with_reducible first|refine up h ?_)|(with_reducible first|(refine wN fun _ hnl=>?_;revert hnl;(repeat refine wS fun _ _=>?_);intro hnl)|refine wE ?_|(refine wK ?_ ?_<;>intro h)|(refine wB ?_ ?_<;>intro h<;>simp only[h]))|simp(maxSteps:=4000000) (disch:=first|exact ddL|fail) only[go_sem,simprocAttr,Tryz.f103])
 all_goals exact⟨rfl,rfl⟩
theorem oT(nx sq:Int){l m b:Nat}(dead g:MV)(cs:List CA)(hlm:l≠m)(hbm:b≠m)(hbl:b≠l)(hc:G1 cs) :
  aA Tryz.prog 124 [.ptr b 0 0] (((St.none.set m (.mp (cEs cs))).set l (shO nx m dead)).set b (eW sq l g)) (fun v σ'=>v=.lst 27 (cs.map CA.c) false∧σ'=((St.none.set m (.mp (cEs cs))).set l (shO nx m dead)).set b (eW sq l g)):=by
 refine(aA.body 10 [.tmp 2] Tryz.func124 rfl rfl rfl rfl ?_)
 have h:=qZ nx l m dead cs hlm hc
 have hml:=Ne.symm hlm
 have hmb:=Ne.symm hbm
 have hlb:=Ne.symm hbl
 repeat' (first|(refine bS h (le2 (by simp[St.set, *]) (by simp[St.set, *])) ?_)|(with_reducible first|(refine wN fun _ hnl=>?_;revert hnl;(repeat refine wS fun _ _=>?_);intro hnl)|refine wE ?_|(refine wK ?_ ?_<;>intro h)|(refine wB ?_ ?_<;>intro h<;>simp only[h]))|simp(maxSteps:=4000000) (disch:=first|exact ddL|fail) only[go_sem,simprocAttr,Tryz.f124])
 all_goals exact⟨rfl,rfl⟩
noncomputable abbrev flD(fl:List ND)(d:Bool):bE:=flO (.lst 5 (fl.map ND.c) false) (if d=true then 1 else 0) 0 (if d=true then jS (sE fl) else .nilfn)
theorem sP{fl:List ND}(hp:bM fl=0){gr:List GR}(hg:dQ (-1) gr=true){c:CA}(hc:cX c=true)(f:Nat)(d:Bool) :
  aA Tryz.prog 102 [.ptr f 0 0,.agg c.c,.int .u32 (grB gr c.id:Int)] (St.none.set f (flD fl d)) (fun v σ'=>v=.bool (eV gr fl c)∧σ'=St.none.set f (flD fl true)):=by
 obtain⟨h1,h2,h3⟩:=tW hp
 have h:=Ar h1 (by rw[h2];omega) c (fun k=>?_) (grB gr c.id) (Nat.lt_of_lt_of_le (Gp hg c.id) (by decide)) f false d
 ·rw[h2] at h
  exact h
 ·by_cases hk:k<8
  ·exact uE hc _ (by
    unfold F8.get
    exact bK _ (by rw[c.f.h];exact hk))
  ·unfold F8.get
   rw[List.getD_eq_getElem?_getD,List.getElem?_eq_none (by rw[c.f.h];omega)]
   decide
abbrev vwO(f:Nat)(mk:UInt32)(sm:Nat)(floor now:Int)(log:MV):bE:=.row 216 6 [[.ptr f 0 0,.int .u32 (mk.toNat:Int),.mapv sm,.int .i64 floor,.int .i64 now,log]]
theorem pH{nx:Int}{cs:List CA}(h:dO nx 0 cs=true)(hn:nx≤1073741824)(hl:cs.length≤1000000):G1 cs:=by
 obtain⟨h1,h2⟩:=iR h
 exact⟨h2,fun c hc=>by have:=h1 c hc;omega,hl⟩
end

section
set_option maxRecDepth 100000
set_option maxHeartbeats 8000000
noncomputable def shC(B:BK)(fl:List ND):List CA:=B.cards.filter (eV B.gr fl)
noncomputable abbrev vwR(fl:List ND)(d:Bool)(f sm v:Nat)(mk:UInt32)(floor now:Int)(log:MV)(cs:List CA):St:=((St.none.set f (flD fl d)).set sm (.mp (vEs cs))).set v (vwO f mk sm floor now log)
structure G0 (f sm v:Nat):Prop where
 sf:sm≠f
 vf:v≠f
 vs:v≠sm
theorem Ft{B:BK}(hb:BkR B)(h3:B.gr.length≤1000000)(h4:∀g,g∈B.gr→g.mem.length≤1000000){m l q b:Nat}(D:pU m l q b)(ex:List (List MV)){fl:List ND}(hp:bM fl=0)(tt:Bool){mk:UInt32}(hm:mk.toNat≤511) :
  aA Tryz.prog 52 [.ptr b 0 0,.lst 5 (fl.map ND.c) tt,.int .u32 (mk.toNat:Int)] (bkS m l q b B ex) (fun r σ'=>∃ρ:St,(∀j o,ρ j=some o→bkS m l q b B ex j=none)∧σ'=ρ.over (bkS m l q b B ex)∧∃f sm v d,G0 f sm v∧r=.ptr v 0 0∧ρ=vwR fl d f sm v mk B.sq B.sq .aT (shC B fl)):=by
 refine aA.less (Q':=fun r σ'=>∃f sm v d,G0 f sm v∧r=.ptr v 0 0∧(∀j,(j=f∨j=sm∨j=v)→bkS m l q b B ex j=none)∧(bkS m l q b B ex).le σ'∧(vwR fl d f sm v mk B.sq B.sq .aT (shC B fl)).le σ') (aA.body 60 [.tmp 6] Tryz.func52 rfl rfl rfl rfl ?_) fun v σ' h=>?_
 rotate_left
 ·obtain⟨f,sm,v,d,hd,rfl,hn,h1,h2⟩:=h
  have hfr:∀j o,vwR fl d f sm v mk B.sq B.sq .aT (shC B fl) j=some o→bkS m l q b B ex j=none:=fun j o hj=>hn j (by
   by_cases j1:j=v
   ·exact .inr (.inr j1)
   ·by_cases j2:j=sm
    ·exact .inr (.inl j2)
    ·by_cases j3:j=f
     ·exact .inl j3
     ·simp[St.set,St.none,j1,j2,j3] at hj)
  refine⟨(vwR fl d f sm v mk B.sq B.sq .aT (shC B fl)).over (bkS m l q b B ex),fun j o hj=>?_,_,hfr,rfl,f,sm,v,d,hd,rfl,rfl⟩
  rcases gI hj with hj|⟨_,hj⟩
  ·exact h2 j o hj
  ·exact h1 j o hj
 have hpn:=pD fl (by have:=(tW hp).2.2;omega) tt hp
 have hmc:=lX mk
 rw[decide_eq_true hm] at hmc
 have hri:=pH hb.cok hb.nx2 (by have:=hb.nc;omega)
 have hsq:=CW B.sq l b (.lst 2 (B.gr.map GR.c) false)
 have hcs:=oT B.nx B.sq (.vec 3 q 0 B.dead.length) (.lst 2 (B.gr.map GR.c) false) B.cards D.lm D.bm D.bl hri
 have hgr:=nA B.sq l b B.gr h3 h4 hb.gok
 have hnc:=hb.nc
 obtain⟨d1,d2,d3,d4,d5,d6⟩:=D
 have e1:=Ne.symm d1
 have e2:=Ne.symm d2
 have e3:=Ne.symm d3
 have e4:=Ne.symm d4
 have e5:=Ne.symm d5
 have e6:=Ne.symm d6
 repeat' (first|(refine kP hpn ?_;(intro f hf;try (simp only[aY] at hf;obtain⟨f1,f2,f3,f4,-⟩:=hf;have f1':=Ne.symm f1;have f2':=Ne.symm f2;have f3':=Ne.symm f3;have f4':=Ne.symm f4)))|(refine bS hsq (St.aL (St.none_le _) (by simp[St.set, *])) ?_)|(refine bS hcs (St.aL (le2 (by simp[St.set, *]) (by simp[St.set, *])) (by simp[St.set, *])) ?_)|(with_reducible first|refine up hmc ?_)|(with_reducible first|(refine wT ?_;(first|((fail_if_success (have:=nl1));refine wN fun nl1 hnl=>?_)|((fail_if_success (have:=nl2));refine wN fun nl2 hnl=>?_)|refine wN fun _ hnl=>?_);revert hnl;(repeat refine wS fun _ _=>?_);intro hnl)|refine wE ?_|(refine wK ?_ ?_<;>intro h)|(refine wB ?_ ?_<;>intro h<;>simp only[h]))|simp(maxSteps:=4000000) (disch:=first|exact ddL|fail) only[go_sem,simprocAttr,Tryz.f52])
 have n1:nl1≠b:=by assumption
 have n2:nl1≠q:=by assumption
 have n3:nl1≠l:=by assumption
 have n4:nl1≠m:=by assumption
 have n5:nl1≠f:=by assumption
 have v1:nl2≠b:=by assumption
 have v2:nl2≠q:=by assumption
 have v3:nl2≠l:=by assumption
 have v4:nl2≠m:=by assumption
 have v5:nl2≠f:=by assumption
 have v6:nl2≠nl1:=by assumption
 obtain⟨PB,hPB⟩:∃PB,PB=eV B.gr fl:=⟨_,rfl⟩
 refine aD (α:=Nat × Bool) (fun z=>⟨60,[(36,.int .i64 (z.1:Int)),(35,.int .i64 (B.cards.length:Int)),(34,.lst 27 (B.cards.map CA.c) false),(8,.ptr nl2 0 0),(0,.ptr b 0 0)],[]⟩)
  (fun z=>(((bkS m l q b B ex).set f (flD fl z.2)).set nl1 (.mp (vEs ((B.cards.take z.1).filter PB)))).set nl2 (vwO f mk nl1 B.sq B.sq .aT)) (fun z=>z.1≤B.cards.length) (fun z=>B.cards.length - z.1) (.of (.less ?_ (St.le_refl _)) ⟨(0,false),rfl,rfl,Nat.zero_le _⟩) ?_
 ·simp(maxSteps:=4000000) (disch:=first|exact ddL|fail) only[go_sem,simprocAttr,aC,aB]
  all_goals first|rfl|(simp;done)
 ·rintro⟨i,d⟩ hi
  have hi:i≤B.cards.length:=hi
  by_cases hlt:i<B.cards.length
  ·obtain⟨x,hx⟩:=bC B.cards hlt
   have hat:=aV (f:=CA.c) hx
   have htk:=aO hx
   have hmt:=sP hp hb.gok (pX hb (bR hx)).1 f d
   have hgx:=hgr x.id
   have hall:=AB ((B.cards.take i).filter PB)
   have hput:dJ .i64 x.id (.int .i64 x.ver) (vEs ((B.cards.take i).filter PB))=vEs ((B.cards.take i).filter PB++[x]):=B7 fun hm=>by
    obtain⟨c,hc,he⟩:=List.mem_map.1 hm
    have hc:=(List.mem_filter.1 hc).1
    have hpw:=hri.1
    rw[gX B.cards hx,List.pairwise_append] at hpw
    have:=hpw.2.2 c hc x (by simp)
    omega
   have hflt:(B.cards.take (i+1)).filter PB=(B.cards.take i).filter PB++(if PB x=true then[x] else[]):=by
    rw[htk,List.filter_append]
    congr 1
    by_cases h:PB x=true
    ·simp[h]
    ·simp[h]
   obtain⟨C,c1⟩:∃C:bP,∀ms,C 103 ms=some ⟨[b],fun v=>v=.int .u32 (grB B.gr x.id:Int),none⟩:=⟨fnF [(103,⟨[b],fun v=>v=.int .u32 (grB B.gr x.id:Int),none⟩)],fun _=>bN⟩
   rw[←hPB] at hmt
   obtain⟨es,hes⟩:∃es,(B.cards.take i).filter PB=es:=⟨_,rfl⟩
   rw[hes] at hall hput hflt ⊢
   obtain⟨sb,hsb⟩:∃sb,PB x=sb:=⟨_,rfl⟩
   rw[hsb] at hmt hflt
   obtain⟨g,hg⟩:∃g:Int,(grB B.gr x.id:Int)=g:=⟨_,rfl⟩
   rw[hg] at hmt hgx c1
   cases sb
   ·rw[if_neg (by simp),List.append_nil] at hflt
    repeat' (first|(refine eI mixed C [_,_,_,_,_,_,_,_,_] [] rfl (by decide +kernel) ?_)|(refine fF [b] [eW B.sq l (.lst 2 (B.gr.map GR.c) false)] (c1 _) (by simp[St.set, *]) hgx ?_)|(refine oC (by simp[St.set, *]) hmt ?_)|(with_reducible first|(refine wT ?_;(first|((fail_if_success (have:=nl1));refine wN fun nl1 hnl=>?_)|((fail_if_success (have:=nl2));refine wN fun nl2 hnl=>?_)|refine wN fun _ hnl=>?_);revert hnl;(repeat refine wS fun _ _=>?_);intro hnl)|refine wE ?_|(refine wK ?_ ?_<;>intro h)|(refine wB ?_ ?_<;>intro h<;>simp only[h]))|simp(maxSteps:=4000000) (disch:=first|exact ddL|fail) only[go_sem,simprocAttr,FXs,hat])
    all_goals (try (exfalso;omega))
    refine .of (.less ?_ (σ1:=(((bkS m l q b B ex).set f (flD fl true)).set nl1 (.mp (vEs (es)))).set nl2 (vwO f mk nl1 B.sq B.sq .aT)) (mQ (by clear hgx hmt c1 hall hflt hat htk;simp[St.set,St.none, *]))) ⟨(i+1,true),rfl,by simp only[hflt],(by omega:i+1≤B.cards.length),by simp only;omega⟩
    simp(maxSteps:=4000000) (disch:=first|exact ddL|fail) only[go_sem,simprocAttr,aC,aB]
    all_goals first|rfl|(simp;done)
   ·rw[if_pos rfl] at hflt
    repeat' (first|(refine eI mixed C [_,_,_,_,_,_,_,_,_] [] rfl (by decide +kernel) ?_)|(refine fF [b] [eW B.sq l (.lst 2 (B.gr.map GR.c) false)] (c1 _) (by simp[St.set, *]) hgx ?_)|(refine oC (by simp[St.set, *]) hmt ?_)|(with_reducible first|(refine wT ?_;(first|((fail_if_success (have:=nl1));refine wN fun nl1 hnl=>?_)|((fail_if_success (have:=nl2));refine wN fun nl2 hnl=>?_)|refine wN fun _ hnl=>?_);revert hnl;(repeat refine wS fun _ _=>?_);intro hnl)|refine wE ?_|(refine wK ?_ ?_<;>intro h)|(refine wB ?_ ?_<;>intro h<;>simp only[h]))|simp(maxSteps:=4000000) (disch:=first|exact ddL|fail) only[go_sem,simprocAttr,FXs,hat,hall,hput])
    all_goals (try (exfalso;omega))
    refine .of (.less ?_ (σ1:=(((bkS m l q b B ex).set f (flD fl true)).set nl1 (.mp (vEs (es++[x])))).set nl2 (vwO f mk nl1 B.sq B.sq .aT)) (mQ (by clear hgx hmt c1 hall hflt hat htk;simp[St.set,St.none, *]))) ⟨(i+1,true),rfl,by simp only[hflt],(by omega:i+1≤B.cards.length),by simp only;omega⟩
    simp(maxSteps:=4000000) (disch:=first|exact ddL|fail) only[go_sem,simprocAttr,aC,aB]
    all_goals first|rfl|(simp;done)
  ·have:i=B.cards.length:=by omega
   subst this
   rw[List.take_length]
   repeat' (first|(with_reducible first|(refine wT ?_;(first|((fail_if_success (have:=nl1));refine wN fun nl1 hnl=>?_)|((fail_if_success (have:=nl2));refine wN fun nl2 hnl=>?_)|refine wN fun _ hnl=>?_);revert hnl;(repeat refine wS fun _ _=>?_);intro hnl)|refine wE ?_|(refine wK ?_ ?_<;>intro h)|(refine wB ?_ ?_<;>intro h<;>simp only[h]))|simp(maxSteps:=4000000) (disch:=first|exact ddL|fail) only[go_sem,simprocAttr])
   have hfin:∀{σ:St},σ=(((bkS m l q b B ex).set f (flD fl d)).set nl1 (.mp (vEs (B.cards.filter PB)))).set nl2 (vwO f mk nl1 B.sq B.sq .aT)→∃f sm v d,G0 f sm v∧MV.ptr nl2 0 0=.ptr v 0 0∧(∀j,(j=f∨j=sm∨j=v)→bkS m l q b B ex j=none)∧(bkS m l q b B ex).le σ∧(vwR fl d f sm v mk B.sq B.sq .aT (shC B fl)).le σ:=fun {σ} hσ=>by
    subst hσ
    subst hPB
    have q1:bkS m l q b B ex f=none:=by simp[St.set,St.none,f1,f2,f3,f4]
    have q2:bkS m l q b B ex nl1=none:=by simp[St.set,St.none,n1,n2,n3,n4]
    have q3:bkS m l q b B ex nl2=none:=by simp[St.set,St.none,v1,v2,v3,v4]
    refine⟨f,nl1,nl2,d,⟨n5,v5,v6⟩,rfl,fun j hj=>?_,?_,?_⟩
    ·rcases hj with rfl|rfl|rfl<;>assumption
    ·intro j o hj
     rw[aH _ _ _ _ (fun e=>by subst e;rw[q3] at hj;cases hj),aH _ _ _ _ (fun e=>by subst e;rw[q2] at hj;cases hj),aH _ _ _ _ (fun e=>by subst e;rw[q1] at hj;cases hj)]
     exact hj
    ·exact St.j6 (St.j6 (St.j6 (St.none_le _)))
   exact hfin rfl
end
end Go.Proofs.YtojmhmejdihaaaaGreatDoor
