/- Parts of the proof, joined; conditions: those that its theorems name. -/
import Derived.Test.YtojmhmejdihaaaaGreatDoorStzd
set_option linter.unusedVariables false
set_option linter.unusedSimpArgs false
set_option maxHeartbeats 4000000
namespace Go.Proofs.YtojmhmejdihaaaaGreatDoor
set_option maxRecDepth 100000
set_option maxHeartbeats 8000000
abbrev alS(k l q:Nat)(K:bE)(L:List Int)(ex:List (List MV)):St:=((St.none.set k K).set l (tkO q L.length)).set q (tkR L ex)
theorem nK{k l q:Nat}{K:bE}{x:Int}{b:Bool}{L L':List Int}{ex:List (List MV)}{kk:MV→St→Prop}(hkl:k≠l)(hkq:k≠q)(hql:q≠l)(h:N7 x b l q L L' ex)
 (hk:∀q' ex',q'≠l→q'≠k→R (cD (.tup []) (alS k l q' K L' ex') kk)):R (dN Tryz.prog 266 [.int .i64 x,.bool b,.ptr l 0 0] (alS k l q K L ex) kk) :=
 cR h (le2 (by simp[St.set,Ne.symm hql]) (by simp[St.set])) fun v σ' hv hf=>by
  obtain⟨rfl,q',ex',h1,rfl⟩:=hv
  have hqk:q'≠k:=fun e=>by
   subst e
   rcases hf q' _ (aM _ _ _) with h|⟨o',h⟩
   ·simp[St.set,hkl,hkq] at h
   ·simp[St.set,hkl,hkq,St.none] at h
  have e:((St.none.set l (tkO q' L'.length)).set q' (tkR L' ex')).over ((alS k l q K L ex).minus ((St.none.set l (tkO q L.length)).set q (tkR L ex)))=alS k l q' K L' ex':=by
   funext j
   by_cases j1:j=q'
   ·subst j1;simp[St.over,St.set]
   ·by_cases j2:j=l
    ·subst j2;simp[St.over,St.set,j1]
    ·by_cases j3:j=q
     ·subst j3;simp[St.over,St.set,St.minus,St.none,j1,j2,Ne.symm hkq]
     ·simp[St.over,St.set,St.minus,St.none,j1,j2,j3]
  rw[e]
  exact hk q' ex' h1 hqk
theorem CV(a b:List Int)(ha:a.length≤1000000)(hb:b.length≤1000000)(kl kb kr:Bool)(ta tb:Bool) :
  aA Tryz.prog 184 [.lst 1 (a.map aR) ta,.lst 1 (b.map aR) tb,.agg [.bool kl,.bool kb,.bool kr]] St.none (fun r _=>r=.lst 1 ((dL kl kb kr a b).map aR) false):=by
 refine aA.seen (aA.body 103 [.tmp 6] Tryz.func184 rfl rfl rfl rfl ?_)
 repeat' (first|(with_reducible first|(refine wT ?_;(first|((fail_if_success (have:=nl1));refine wN fun nl1 hnl=>?_)|((fail_if_success (have:=nl2));refine wN fun nl2 hnl=>?_)|refine wN fun _ hnl=>?_);revert hnl;(repeat refine wS fun _ _=>?_);intro hnl)|refine wE ?_|(refine wK ?_ ?_<;>intro h)|(refine wB ?_ ?_<;>intro h<;>simp only[h]))|simp(maxSteps:=4000000) (disch:=first|exact ddL|fail) only[go_sem,simprocAttr,Tryz.f184])
 have d1:nl1≠nl2:=by assumption
 have d2:=Ne.symm d1
 have hlen:=nO (kl:=kl) (kb:=kb) (kr:=kr) _ a b (Nat.le_refl _)
 obtain⟨res,hres⟩:∃res,dL kl kb kr a b=res:=⟨_,rfl⟩
 rw[hres] at hlen ⊢
 refine aD (α:=Nat × Nat × List Int × Nat × List (List MV)) (fun z=>⟨103,[(10,.int .i64 (z.2.1:Int)),(9,.int .i64 (z.1:Int)),(8,.fn (.func 266) [] [.ptr nl2 0 0]),(7,.ptr nl2 0 0),(5,.ptr nl1 0 0),(1,.lst 1 (b.map aR) tb),(0,.lst 1 (a.map aR) ta)],[]⟩)
  (fun z=>alS nl1 nl2 z.2.2.2.1 (kpO kl kb kr) z.2.2.1 z.2.2.2.2) (fun z=>z.1≤a.length∧z.2.1≤b.length∧z.2.2.2.1≠nl1∧z.2.2.2.1≠nl2∧res=z.2.2.1++dL kl kb kr (a.drop z.1) (b.drop z.2.1)) (fun z=>a.length - z.1+(b.length - z.2.1)) ?_ ?_
 ·refine Gh.De (b:=nl2) (t:=56) (e:=1) (pre:=[]) (post:=[]) 3 1 (by simp[St.set]) fun q hq=>?_
  have q1:q≠nl1∧q≠nl2:=⟨fun e=>by subst e;simp[St.set,d1] at hq,fun e=>by subst e;simp[St.set] at hq⟩
  obtain⟨q1,q2⟩:=q1
  have q1':=Ne.symm q1
  have q2':=Ne.symm q2
  refine .of (.less ?_ (St.aL (le2 (by simp[St.set, *]) (by simp[St.set, *])) (by simp[St.set]))) ⟨(0,0,[],q,[]),rfl,rfl,⟨Nat.zero_le _,Nat.zero_le _,q1,q2,hres.symm⟩⟩
  simp(maxSteps:=4000000) (disch:=first|exact ddL|fail) only[go_sem,simprocAttr,aC,aB]
  all_goals first|rfl|(simp;done)
 ·rintro⟨i,j,L,q,ex⟩ ⟨hi,hj,q1,q2,hq⟩
  simp only at hi hj q1 q2 hq ⊢
  have q1':=Ne.symm q1
  have q2':=Ne.symm q2
  have hL:L.length≤3000000:=by rw[hq,List.length_append] at hlen;omega
  have tk:=fun(x:Int) (c:Bool)=>sC x c q2 L hL ex
  by_cases hlt:i<a.length∧j<b.length
  ·obtain⟨h1,h2⟩:=hlt
   obtain⟨x,hx⟩:=bC a h1
   obtain⟨y,hy⟩:=bC b h2
   rw[cY hx,cY hy] at hq
   have hax:=aV (f:=aR) hx
   have hay:=aV (f:=aR) hy
   by_cases hc:x<y
   ·rw[uC hc,←cY hy,←List.append_assoc] at hq
    repeat' (first|(refine eI mixed (fun _ _=>none) [_,_,_,_,_,_,_] [] rfl (by decide +kernel) ?_)|((refine nK d1 q1' q2 (tk _ _) ?_;intro q' ex' p2 p1))|(with_reducible first|(refine wT ?_;(first|((fail_if_success (have:=nl1));refine wN fun nl1 hnl=>?_)|((fail_if_success (have:=nl2));refine wN fun nl2 hnl=>?_)|refine wN fun _ hnl=>?_);revert hnl;(repeat refine wS fun _ _=>?_);intro hnl)|refine wE ?_|(refine wK ?_ ?_<;>intro h)|(refine wB ?_ ?_<;>intro h<;>simp only[h]))|simp(maxSteps:=4000000) (disch:=first|exact ddL|fail) only[go_sem,simprocAttr,hax,hay])
    all_goals (try (exfalso;omega))
    refine .of (.less ?_ (St.le_refl _)) ⟨(i+1,j,_,q',ex'),rfl,rfl,⟨by simp only;omega,hj,p1,p2,hq⟩,by simp only;omega⟩
    simp(maxSteps:=4000000) (disch:=first|exact ddL|fail) only[go_sem,simprocAttr,aC,aB]
    all_goals first|rfl|(simp;done)
   ·by_cases hd:y<x
    ·rw[uB hd,←cY hx,←List.append_assoc] at hq
     repeat' (first|(refine eI mixed (fun _ _=>none) [_,_,_,_,_,_,_] [] rfl (by decide +kernel) ?_)|((refine nK d1 q1' q2 (tk _ _) ?_;intro q' ex' p2 p1))|(with_reducible first|(refine wT ?_;(first|((fail_if_success (have:=nl1));refine wN fun nl1 hnl=>?_)|((fail_if_success (have:=nl2));refine wN fun nl2 hnl=>?_)|refine wN fun _ hnl=>?_);revert hnl;(repeat refine wS fun _ _=>?_);intro hnl)|refine wE ?_|(refine wK ?_ ?_<;>intro h)|(refine wB ?_ ?_<;>intro h<;>simp only[h]))|simp(maxSteps:=4000000) (disch:=first|exact ddL|fail) only[go_sem,simprocAttr,hax,hay])
     all_goals (try (exfalso;omega))
     refine .of (.less ?_ (St.le_refl _)) ⟨(i,j+1,_,q',ex'),rfl,rfl,⟨hi,by simp only;omega,p1,p2,hq⟩,by simp only;omega⟩
     simp(maxSteps:=4000000) (disch:=first|exact ddL|fail) only[go_sem,simprocAttr,aC,aB]
     all_goals first|rfl|(simp;done)
    ·rw[uA hc hd,←List.append_assoc] at hq
     repeat' (first|(refine eI mixed (fun _ _=>none) [_,_,_,_,_,_,_] [] rfl (by decide +kernel) ?_)|((refine nK d1 q1' q2 (tk _ _) ?_;intro q' ex' p2 p1))|(with_reducible first|(refine wT ?_;(first|((fail_if_success (have:=nl1));refine wN fun nl1 hnl=>?_)|((fail_if_success (have:=nl2));refine wN fun nl2 hnl=>?_)|refine wN fun _ hnl=>?_);revert hnl;(repeat refine wS fun _ _=>?_);intro hnl)|refine wE ?_|(refine wK ?_ ?_<;>intro h)|(refine wB ?_ ?_<;>intro h<;>simp only[h]))|simp(maxSteps:=4000000) (disch:=first|exact ddL|fail) only[go_sem,simprocAttr,hax,hay])
     all_goals (try (exfalso;omega))
     refine .of (.less ?_ (St.le_refl _)) ⟨(i+1,j+1,_,q',ex'),rfl,rfl,⟨by simp only;omega,by simp only;omega,p1,p2,hq⟩,by simp only;omega⟩
     simp(maxSteps:=4000000) (disch:=first|exact ddL|fail) only[go_sem,simprocAttr,aC,aB]
     all_goals first|rfl|(simp;done)
  ·have hr1:i<a.length→b.drop j=[]:=fun h=>List.drop_eq_nil_of_le (by omega)
   have hst:res=L++((if kl=true then a.drop i else[])++(if kr=true then b.drop j else[])):=by
    by_cases h:i<a.length
    ·rw[hq,hr1 h,mD];simp
    ·rw[hq,List.drop_eq_nil_of_le (by omega:a.length≤i),rF];simp
   clear hq hr1
   repeat' (first|(with_reducible first|(refine wT ?_;(first|((fail_if_success (have:=nl1));refine wN fun nl1 hnl=>?_)|((fail_if_success (have:=nl2));refine wN fun nl2 hnl=>?_)|refine wN fun _ hnl=>?_);revert hnl;(repeat refine wS fun _ _=>?_);intro hnl)|refine wE ?_|(refine wK ?_ ?_<;>intro h)|(refine wB ?_ ?_<;>intro h<;>simp only[h]))|simp(maxSteps:=4000000) (disch:=first|exact ddL|fail) only[go_sem,simprocAttr])
   all_goals (try (exfalso;omega))
   all_goals
    refine aD (α:=Nat × List Int × Nat × List (List MV)) (fun z=>⟨103,[(10,.int .i64 (j:Int)),(9,.int .i64 (z.1:Int)),(8,.fn (.func 266) [] [.ptr nl2 0 0]),(7,.ptr nl2 0 0),(5,.ptr nl1 0 0),(1,.lst 1 (b.map aR) tb),(0,.lst 1 (a.map aR) ta)],[]⟩)
     (fun z=>alS nl1 nl2 z.2.2.1 (kpO kl kb kr) z.2.1 z.2.2.2) (fun z=>z.1≤a.length∧z.2.2.1≠nl1∧z.2.2.1≠nl2∧res=z.2.1++((if kl=true then a.drop z.1 else[])++(if kr=true then b.drop j else[]))) (fun z=>a.length - z.1) (.of (.less ?_ (St.le_refl _)) ⟨(i,L,q,ex),rfl,rfl,⟨hi,q1,q2,hst⟩⟩) ?_
    ·simp(maxSteps:=4000000) (disch:=first|exact ddL|fail) only[go_sem,simprocAttr,aC,aB]
     all_goals first|rfl|(simp;done)
    ·clear hst q1 q2 q1' q2' tk hL hi hlt
     rintro⟨i,L,q,ex⟩ ⟨hi,q1,q2,hq⟩
     simp only at hi q1 q2 hq ⊢
     have q1':=Ne.symm q1
     have q2':=Ne.symm q2
     have hL:L.length≤3000000:=by rw[hq,List.length_append] at hlen;omega
     have tk:=fun(x:Int) (c:Bool)=>sC x c q2 L hL ex
     by_cases hlt:i<a.length
     ·obtain⟨x,hx⟩:=bC a hlt
      have hax:=aV (f:=aR) hx
      have hq:res=(L++if kl=true then[x] else[])++((if kl=true then a.drop (i+1) else[])++(if kr=true then b.drop j else[])):=by
       rw[hq,cY hx]
       cases kl<;>simp
      repeat' (first|(refine eI mixed (fun _ _=>none) [_,_,_,_,_,_,_] [] rfl (by decide +kernel) ?_)|((refine nK d1 q1' q2 (tk _ _) ?_;intro q' ex' p2 p1))|(with_reducible first|(refine wT ?_;(first|((fail_if_success (have:=nl1));refine wN fun nl1 hnl=>?_)|((fail_if_success (have:=nl2));refine wN fun nl2 hnl=>?_)|refine wN fun _ hnl=>?_);revert hnl;(repeat refine wS fun _ _=>?_);intro hnl)|refine wE ?_|(refine wK ?_ ?_<;>intro h)|(refine wB ?_ ?_<;>intro h<;>simp only[h]))|simp(maxSteps:=4000000) (disch:=first|exact ddL|fail) only[go_sem,simprocAttr,hax])
      all_goals (try (exfalso;omega))
      refine .of (.less ?_ (St.le_refl _)) ⟨(i+1,_,q',ex'),rfl,rfl,⟨by simp only;omega,p1,p2,hq⟩,by simp only;omega⟩
      simp(maxSteps:=4000000) (disch:=first|exact ddL|fail) only[go_sem,simprocAttr,aC,aB]
      all_goals first|rfl|(simp;done)
     ·have hq:res=L++(if kr=true then b.drop j else[]):=by
       rw[hq,List.drop_eq_nil_of_le (by omega:a.length≤i)];simp
      repeat' (first|(with_reducible first|(refine wT ?_;(first|((fail_if_success (have:=nl1));refine wN fun nl1 hnl=>?_)|((fail_if_success (have:=nl2));refine wN fun nl2 hnl=>?_)|refine wN fun _ hnl=>?_);revert hnl;(repeat refine wS fun _ _=>?_);intro hnl)|refine wE ?_|(refine wK ?_ ?_<;>intro h)|(refine wB ?_ ?_<;>intro h<;>simp only[h]))|simp(maxSteps:=4000000) (disch:=first|exact ddL|fail) only[go_sem,simprocAttr])
      all_goals (try (exfalso;omega))
      refine aD (α:=Nat × List Int × Nat × List (List MV)) (fun z=>⟨103,[(10,.int .i64 (z.1:Int)),(8,.fn (.func 266) [] [.ptr nl2 0 0]),(7,.ptr nl2 0 0),(5,.ptr nl1 0 0),(1,.lst 1 (b.map aR) tb),(0,.lst 1 (a.map aR) ta)],[]⟩)
       (fun z=>alS nl1 nl2 z.2.2.1 (kpO kl kb kr) z.2.1 z.2.2.2) (fun z=>z.1≤b.length∧z.2.2.1≠nl1∧z.2.2.1≠nl2∧res=z.2.1++(if kr=true then b.drop z.1 else[])) (fun z=>b.length - z.1) (.of (.less ?_ (St.le_refl _)) ⟨(j,L,q,ex),rfl,rfl,⟨hj,q1,q2,hq⟩⟩) ?_
      ·simp(maxSteps:=4000000) (disch:=first|exact ddL|fail) only[go_sem,simprocAttr,aC,aB]
       all_goals first|rfl|(simp;done)
      ·clear hq q1 q2 q1' q2' tk hL hi hlt hj
       rintro⟨j,L,q,ex⟩ ⟨hj,q1,q2,hq⟩
       simp only at hj q1 q2 hq ⊢
       have q1':=Ne.symm q1
       have q2':=Ne.symm q2
       have hL:L.length≤3000000:=by rw[hq,List.length_append] at hlen;omega
       have tk:=fun(x:Int) (c:Bool)=>sC x c q2 L hL ex
       by_cases hlt:j<b.length
       ·obtain⟨x,hx⟩:=bC b hlt
        have hax:=aV (f:=aR) hx
        have hq:res=(L++if kr=true then[x] else[])++(if kr=true then b.drop (j+1) else[]):=by
         rw[hq,cY hx]
         cases kr<;>simp
        repeat' (first|(refine eI mixed (fun _ _=>none) [_,_,_,_,_,_,_] [] rfl (by decide +kernel) ?_)|((refine nK d1 q1' q2 (tk _ _) ?_;intro q' ex' p2 p1))|(with_reducible first|(refine wT ?_;(first|((fail_if_success (have:=nl1));refine wN fun nl1 hnl=>?_)|((fail_if_success (have:=nl2));refine wN fun nl2 hnl=>?_)|refine wN fun _ hnl=>?_);revert hnl;(repeat refine wS fun _ _=>?_);intro hnl)|refine wE ?_|(refine wK ?_ ?_<;>intro h)|(refine wB ?_ ?_<;>intro h<;>simp only[h]))|simp(maxSteps:=4000000) (disch:=first|exact ddL|fail) only[go_sem,simprocAttr,hax])
        all_goals (try (exfalso;omega))
        refine .of (.less ?_ (St.le_refl _)) ⟨(j+1,_,q',ex'),rfl,rfl,⟨by simp only;omega,p1,p2,hq⟩,by simp only;omega⟩
        simp(maxSteps:=4000000) (disch:=first|exact ddL|fail) only[go_sem,simprocAttr,aC,aB]
        all_goals first|rfl|(simp;done)
       ·have hq:res=L:=by
         rw[hq,List.drop_eq_nil_of_le (by omega:b.length≤j)];simp
        repeat' (first|(with_reducible first|(refine wT ?_;(first|((fail_if_success (have:=nl1));refine wN fun nl1 hnl=>?_)|((fail_if_success (have:=nl2));refine wN fun nl2 hnl=>?_)|refine wN fun _ hnl=>?_);revert hnl;(repeat refine wS fun _ _=>?_);intro hnl)|refine wE ?_|(refine wK ?_ ?_<;>intro h)|(refine wB ?_ ?_<;>intro h<;>simp only[h]))|simp(maxSteps:=4000000) (disch:=first|exact ddL|fail) only[go_sem,simprocAttr])
        all_goals (try (exfalso;omega))
        all_goals
         rw[hq]
         exact dW (aM _ _ _) (by simp)
theorem C3(a b:List Int)(ha:a.length≤1000000)(hb:b.length≤1000000)(ha':UpI a)(hb':UpI b)(ta tb:Bool):aA Tryz.prog 97 [.lst 1 (a.map aR) ta,.lst 1 (b.map aR) tb] St.none (fun r _=>r=.lst 1 ((cG a b).map aR) false):=by
 refine(aA.body 9 [.tmp 4] Tryz.func97 rfl rfl rfl rfl ?_)
 have h:=CV a b ha hb true false false ta tb
 rw[kE _ a b (Nat.le_refl _) ha' hb'] at h
 repeat' (first|(with_reducible first|refine up h ?_)|(with_reducible first|(refine wN fun _ hnl=>?_;revert hnl;(repeat refine wS fun _ _=>?_);intro hnl)|refine wE ?_|(refine wK ?_ ?_<;>intro h)|(refine wB ?_ ?_<;>intro h<;>simp only[h]))|simp(maxSteps:=4000000) (disch:=first|exact ddL|fail) only[go_sem,simprocAttr,Tryz.f97])
end Go.Proofs.YtojmhmejdihaaaaGreatDoor
