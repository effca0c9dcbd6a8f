/- Parts of the proof, joined; conditions: those that its theorems name. -/
import Derived.Test.YtaojijkdamfbnaaGreatDoorMdz
set_option linter.unusedVariables false
set_option linter.unusedSimpArgs false
set_option maxHeartbeats 4000000
namespace Go.Proofs.YtaojijkdamfbnaaGreatDoor
section
set_option maxRecDepth 100000
set_option maxHeartbeats 8000000
abbrev kpO(kl kb kr:Bool):aX:=.row 149 3 [[.bool kl,.bool kb,.bool kr]]
abbrev tkO(q n:Nat):aX:=.row 46 1 [[.vec 1 q 0 n]]
abbrev tkR(L:List Int)(ex:List (List MV)):aX:=.row 3 1 (L.map aW++ex)
def LQ(x:Int)(b:Bool)(l q:Nat)(L L':List Int)(ex:List (List MV)):Prop :=
 aA Tryz.prog 124 [.int .i64 x,.bool b,.ptr l 0 0] ((St.none.set l (tkO q L.length)).set q (tkR L ex)) (fun v σ'=>v=.tup []∧∃q' ex',q'≠l∧σ'=(St.none.set l (tkO q' L'.length)).set q' (tkR L' ex'))
theorem qJ(x:Int)(b:Bool){l q:Nat}(hql:q≠l)(L:List Int)(hL:L.length≤3000000)(ex:List (List MV)):LQ x b l q L (L++(if b=true then[x] else[])) ex:=by
 refine aA.less (Q':=fun v σ'=>v=.tup []∧∃q' ex',q'≠l∧((St.none.set l (tkO q' (L++(if b=true then[x] else[])).length)).set q' (tkR (L++(if b=true then[x] else[])) ex')).le σ') (aA.body 10 [] Tryz.func124 rfl rfl rfl rfl ?_) fun v σ' ⟨h1,q',ex',h2,h3⟩=>⟨_,h3,h1,q',ex',h2,rfl⟩
 have hlq:=Ne.symm hql
 cases b
 ·simp only[Bool.false_eq_true,if_false,List.append_nil]
  repeat' (first|(with_reducible first|(refine wT ?_;(first|((fail_if_success (have:=nl1));refine wN fun nl1 hnl=>?_)|((fail_if_success (have:=nl2));refine wN fun nl2 hnl=>?_)|refine wN fun _ hnl=>?_);revert hnl;(repeat refine wS fun _ _=>?_);intro hnl)|refine wE ?_|(refine wK ?_ ?_<;>intro h)|(refine wB ?_ ?_<;>intro h<;>simp only[h]))|simp(maxSteps:=4000000) (disch:=first|exact ddL|fail) only[go_sem,simprocAttr,Tryz.f124])
  all_goals exact⟨q,ex,hql,St.le_refl _⟩
 ·simp only[if_true,List.length_append,List.length_singleton]
  have hLm:(L.map aW).length=L.length:=List.length_map _
  obtain⟨n,hn⟩:∃n,L.length=n:=⟨_,rfl⟩
  have hdr:(L.map aW++ex).drop (n+1)=ex.drop 1:=by rw[←hn];exact kQ
  have htk':(L.map aW++ex).take n=L.map aW:=by rw[←hn];exact j8
  have hfin:∀{σ:St} {q':Nat} {ex':List (List MV)},q'≠l→σ l=some (tkO q' (n+1))→σ q'=some (tkR (L++[x]) ex')→∃q' ex',¬q'=l∧((St.none.set l (tkO q' (n+1))).set q' (tkR (L++[x]) ex')).le σ:=fun h1 h2 h3=>⟨_,_,h1,le2 h2 h3⟩
  rw[hn] at hLm ⊢
  repeat' (first|(with_reducible first|(refine wT ?_;(first|((fail_if_success (have:=nl1));refine wN fun nl1 hnl=>?_)|((fail_if_success (have:=nl2));refine wN fun nl2 hnl=>?_)|refine wN fun _ hnl=>?_);revert hnl;(repeat refine wS fun _ _=>?_);intro hnl)|refine wE ?_|(refine wK ?_ ?_<;>intro h)|(refine wB ?_ ?_<;>intro h<;>simp only[h]))|simp(maxSteps:=4000000) (disch:=first|exact ddL|fail) only[go_sem,simprocAttr,Tryz.f124,FYs,htk',hdr,hLm])
  all_goals
   have d1:nl2≠l:=by assumption
   have d2:=Ne.symm d1
  ·have hex:ex=[]:=List.eq_nil_of_length_eq_zero (by omega)
   subst hex
   clear h
   exact hfin (ex':=[]) d1 (by simp[St.set, *]) (by simp[St.set, *])
  ·exact hfin (ex':=ex.drop 1) d1 (by simp[St.set, *]) (by simp[St.set, *])
end

section
set_option maxRecDepth 100000
set_option maxHeartbeats 8000000
abbrev alS(k l q:Nat)(K:aX)(L:List Int)(ex:List (List MV)):St:=((St.none.set k K).set l (tkO q L.length)).set q (tkR L ex)
theorem mL{k l q:Nat}{K:aX}{x:Int}{b:Bool}{L L':List Int}{ex:List (List MV)}{kk:MV→St→Prop}(hkl:k≠l)(hkq:k≠q)(hql:q≠l)(h:LQ x b l q L L' ex)
 (hk:∀q' ex',q'≠l→q'≠k→R (bV (.tup []) (alS k l q' K L' ex') kk)):R (eA Tryz.prog 124 [.int .i64 x,.bool b,.ptr l 0 0] (alS k l q K L ex) kk) :=
 cL h (le2 (by simp[St.set,Ne.symm hql]) (by simp[St.set])) fun v σ' hv hf=>by
  obtain⟨rfl,q',ex',h1,rfl⟩:=hv
  have hqk:q'≠k:=fun e=>by
   subst e
   rcases hf q' _ (aJ _ _ _) with h|⟨o',h⟩
   ·simp[St.set,hkl,hkq] at h
   ·simp[St.set,hkl,hkq,St.none] at h
  have e:((St.none.set l (tkO q' L'.length)).set q' (tkR L' ex')).over ((alS k l q K L ex).minus ((St.none.set l (tkO q L.length)).set q (tkR L ex)))=alS k l q' K L' ex':=by
   funext j
   by_cases j1:j=q'
   ·subst j1;simp[St.over,St.set]
   ·by_cases j2:j=l
    ·subst j2;simp[St.over,St.set,j1]
    ·by_cases j3:j=q
     ·subst j3;simp[St.over,St.set,St.minus,St.none,j1,j2,Ne.symm hkq]
     ·simp[St.over,St.set,St.minus,St.none,j1,j2,j3]
  rw[e]
  exact hk q' ex' h1 hqk
theorem BA(a b:List Int)(ha:a.length≤1000000)(hb:b.length≤1000000)(kl kb kr:Bool)(ta tb:Bool) :
  aA Tryz.prog 82 [.lst 1 (a.map aW) ta,.lst 1 (b.map aW) tb,.agg [.bool kl,.bool kb,.bool kr]] St.none (fun r _=>r=.lst 1 ((dA kl kb kr a b).map aW) false):=by
 refine aA.seen (aA.body 103 [.tmp 6] Tryz.func82 rfl rfl rfl rfl ?_)
 repeat' (first|(with_reducible first|(refine wT ?_;(first|((fail_if_success (have:=nl1));refine wN fun nl1 hnl=>?_)|((fail_if_success (have:=nl2));refine wN fun nl2 hnl=>?_)|refine wN fun _ hnl=>?_);revert hnl;(repeat refine wS fun _ _=>?_);intro hnl)|refine wE ?_|(refine wK ?_ ?_<;>intro h)|(refine wB ?_ ?_<;>intro h<;>simp only[h]))|simp(maxSteps:=4000000) (disch:=first|decide|assumption|omega|(simp only[wL];omega)) only[go_sem,simprocAttr,Tryz.f82])
 have d1:nl1≠nl2:=by assumption
 have d2:=Ne.symm d1
 have hlen:=mO (kl:=kl) (kb:=kb) (kr:=kr) _ a b (Nat.le_refl _)
 obtain⟨res,hres⟩:∃res,dA kl kb kr a b=res:=⟨_,rfl⟩
 rw[hres] at hlen ⊢
 refine aG (α:=Nat × Nat × List Int × Nat × List (List MV)) (fun z=>⟨103,[(10,.int .i64 (z.2.1:Int)),(9,.int .i64 (z.1:Int)),(8,.fn (.func 124) [] [.ptr nl2 0 0]),(7,.ptr nl2 0 0),(5,.ptr nl1 0 0),(1,.lst 1 (b.map aW) tb),(0,.lst 1 (a.map aW) ta)],[]⟩)
  (fun z=>alS nl1 nl2 z.2.2.2.1 (kpO kl kb kr) z.2.2.1 z.2.2.2.2) (fun z=>z.1≤a.length∧z.2.1≤b.length∧z.2.2.2.1≠nl1∧z.2.2.2.1≠nl2∧res=z.2.2.1++dA kl kb kr (a.drop z.1) (b.drop z.2.1)) (fun z=>a.length - z.1+(b.length - z.2.1)) ?_ ?_
 ·refine Gh.tZ (b:=nl2) (t:=46) (e:=1) (pre:=[]) (post:=[]) 3 1 (by simp[St.set]) fun q hq=>?_
  have q1:q≠nl1∧q≠nl2:=⟨fun e=>by subst e;simp[St.set,d1] at hq,fun e=>by subst e;simp[St.set] at hq⟩
  obtain⟨q1,q2⟩:=q1
  have q1':=Ne.symm q1
  have q2':=Ne.symm q2
  refine .of (.less ?_ (St.aH (le2 (by simp[St.set, *]) (by simp[St.set, *])) (by simp[St.set]))) ⟨(0,0,[],q,[]),rfl,rfl,⟨Nat.zero_le _,Nat.zero_le _,q1,q2,hres.symm⟩⟩
  simp(maxSteps:=4000000) (disch:=first|decide|assumption|omega|(simp only[wL];omega)) only[go_sem,simprocAttr,aC,aB]
  all_goals first|rfl|(simp;done)
 ·rintro⟨i,j,L,q,ex⟩ ⟨hi,hj,q1,q2,hq⟩
  simp only at hi hj q1 q2 hq ⊢
  have q1':=Ne.symm q1
  have q2':=Ne.symm q2
  have hL:L.length≤3000000:=by rw[hq,List.length_append] at hlen;omega
  have tk:=fun(x:Int) (c:Bool)=>qJ x c q2 L hL ex
  by_cases hlt:i<a.length∧j<b.length
  ·obtain⟨h1,h2⟩:=hlt
   obtain⟨x,hx⟩:=bN a h1
   obtain⟨y,hy⟩:=bN b h2
   rw[eI hx,eI hy] at hq
   have hax:=bK (f:=aW) hx
   have hay:=bK (f:=aW) hy
   by_cases hc:x<y
   ·rw[r7 hc,←eI hy,←List.append_assoc] at hq
    repeat' (first|(refine fQ mixed (fun _ _=>none) [_,_,_,_,_,_,_] [] rfl (by decide +kernel) ?_)|((refine mL d1 q1' q2 (tk _ _) ?_;intro q' ex' p2 p1))|(with_reducible first|(refine wT ?_;(first|((fail_if_success (have:=nl1));refine wN fun nl1 hnl=>?_)|((fail_if_success (have:=nl2));refine wN fun nl2 hnl=>?_)|refine wN fun _ hnl=>?_);revert hnl;(repeat refine wS fun _ _=>?_);intro hnl)|refine wE ?_|(refine wK ?_ ?_<;>intro h)|(refine wB ?_ ?_<;>intro h<;>simp only[h]))|simp(maxSteps:=4000000) (disch:=first|decide|assumption|omega|(simp only[wL];omega)) only[go_sem,simprocAttr,hax,hay])
    all_goals (try (exfalso;omega))
    refine .of (.less ?_ (St.le_refl _)) ⟨(i+1,j,_,q',ex'),rfl,rfl,⟨by simp only;omega,hj,p1,p2,hq⟩,by simp only;omega⟩
    simp(maxSteps:=4000000) (disch:=first|decide|assumption|omega|(simp only[wL];omega)) only[go_sem,simprocAttr,aC,aB]
    all_goals first|rfl|(simp;done)
   ·by_cases hd:y<x
    ·rw[r0 hd,←eI hx,←List.append_assoc] at hq
     repeat' (first|(refine fQ mixed (fun _ _=>none) [_,_,_,_,_,_,_] [] rfl (by decide +kernel) ?_)|((refine mL d1 q1' q2 (tk _ _) ?_;intro q' ex' p2 p1))|(with_reducible first|(refine wT ?_;(first|((fail_if_success (have:=nl1));refine wN fun nl1 hnl=>?_)|((fail_if_success (have:=nl2));refine wN fun nl2 hnl=>?_)|refine wN fun _ hnl=>?_);revert hnl;(repeat refine wS fun _ _=>?_);intro hnl)|refine wE ?_|(refine wK ?_ ?_<;>intro h)|(refine wB ?_ ?_<;>intro h<;>simp only[h]))|simp(maxSteps:=4000000) (disch:=first|decide|assumption|omega|(simp only[wL];omega)) only[go_sem,simprocAttr,hax,hay])
     all_goals (try (exfalso;omega))
     refine .of (.less ?_ (St.le_refl _)) ⟨(i,j+1,_,q',ex'),rfl,rfl,⟨hi,by simp only;omega,p1,p2,hq⟩,by simp only;omega⟩
     simp(maxSteps:=4000000) (disch:=first|decide|assumption|omega|(simp only[wL];omega)) only[go_sem,simprocAttr,aC,aB]
     all_goals first|rfl|(simp;done)
    ·rw[rZ hc hd,←List.append_assoc] at hq
     repeat' (first|(refine fQ mixed (fun _ _=>none) [_,_,_,_,_,_,_] [] rfl (by decide +kernel) ?_)|((refine mL d1 q1' q2 (tk _ _) ?_;intro q' ex' p2 p1))|(with_reducible first|(refine wT ?_;(first|((fail_if_success (have:=nl1));refine wN fun nl1 hnl=>?_)|((fail_if_success (have:=nl2));refine wN fun nl2 hnl=>?_)|refine wN fun _ hnl=>?_);revert hnl;(repeat refine wS fun _ _=>?_);intro hnl)|refine wE ?_|(refine wK ?_ ?_<;>intro h)|(refine wB ?_ ?_<;>intro h<;>simp only[h]))|simp(maxSteps:=4000000) (disch:=first|decide|assumption|omega|(simp only[wL];omega)) only[go_sem,simprocAttr,hax,hay])
     all_goals (try (exfalso;omega))
     refine .of (.less ?_ (St.le_refl _)) ⟨(i+1,j+1,_,q',ex'),rfl,rfl,⟨by simp only;omega,by simp only;omega,p1,p2,hq⟩,by simp only;omega⟩
     simp(maxSteps:=4000000) (disch:=first|decide|assumption|omega|(simp only[wL];omega)) only[go_sem,simprocAttr,aC,aB]
     all_goals first|rfl|(simp;done)
  ·have hr1:i<a.length→b.drop j=[]:=fun h=>List.drop_eq_nil_of_le (by omega)
   have hst:res=L++((if kl=true then a.drop i else[])++(if kr=true then b.drop j else[])):=by
    by_cases h:i<a.length
    ·rw[hq,hr1 h,lM];simp
    ·rw[hq,List.drop_eq_nil_of_le (by omega:a.length≤i),pM];simp
   clear hq hr1
   repeat' (first|(with_reducible first|(refine wT ?_;(first|((fail_if_success (have:=nl1));refine wN fun nl1 hnl=>?_)|((fail_if_success (have:=nl2));refine wN fun nl2 hnl=>?_)|refine wN fun _ hnl=>?_);revert hnl;(repeat refine wS fun _ _=>?_);intro hnl)|refine wE ?_|(refine wK ?_ ?_<;>intro h)|(refine wB ?_ ?_<;>intro h<;>simp only[h]))|simp(maxSteps:=4000000) (disch:=first|decide|assumption|omega|(simp only[wL];omega)) only[go_sem,simprocAttr])
   all_goals (try (exfalso;omega))
   all_goals
    refine aG (α:=Nat × List Int × Nat × List (List MV)) (fun z=>⟨103,[(10,.int .i64 (j:Int)),(9,.int .i64 (z.1:Int)),(8,.fn (.func 124) [] [.ptr nl2 0 0]),(7,.ptr nl2 0 0),(5,.ptr nl1 0 0),(1,.lst 1 (b.map aW) tb),(0,.lst 1 (a.map aW) ta)],[]⟩)
     (fun z=>alS nl1 nl2 z.2.2.1 (kpO kl kb kr) z.2.1 z.2.2.2) (fun z=>z.1≤a.length∧z.2.2.1≠nl1∧z.2.2.1≠nl2∧res=z.2.1++((if kl=true then a.drop z.1 else[])++(if kr=true then b.drop j else[]))) (fun z=>a.length - z.1) (.of (.less ?_ (St.le_refl _)) ⟨(i,L,q,ex),rfl,rfl,⟨hi,q1,q2,hst⟩⟩) ?_
    ·simp(maxSteps:=4000000) (disch:=first|decide|assumption|omega|(simp only[wL];omega)) only[go_sem,simprocAttr,aC,aB]
     all_goals first|rfl|(simp;done)
    ·clear hst q1 q2 q1' q2' tk hL hi hlt
     rintro⟨i,L,q,ex⟩ ⟨hi,q1,q2,hq⟩
     simp only at hi q1 q2 hq ⊢
     have q1':=Ne.symm q1
     have q2':=Ne.symm q2
     have hL:L.length≤3000000:=by rw[hq,List.length_append] at hlen;omega
     have tk:=fun(x:Int) (c:Bool)=>qJ x c q2 L hL ex
     by_cases hlt:i<a.length
     ·obtain⟨x,hx⟩:=bN a hlt
      have hax:=bK (f:=aW) hx
      have hq:res=(L++if kl=true then[x] else[])++((if kl=true then a.drop (i+1) else[])++(if kr=true then b.drop j else[])):=by
       rw[hq,eI hx]
       cases kl<;>simp
      repeat' (first|(refine fQ mixed (fun _ _=>none) [_,_,_,_,_,_,_] [] rfl (by decide +kernel) ?_)|((refine mL d1 q1' q2 (tk _ _) ?_;intro q' ex' p2 p1))|(with_reducible first|(refine wT ?_;(first|((fail_if_success (have:=nl1));refine wN fun nl1 hnl=>?_)|((fail_if_success (have:=nl2));refine wN fun nl2 hnl=>?_)|refine wN fun _ hnl=>?_);revert hnl;(repeat refine wS fun _ _=>?_);intro hnl)|refine wE ?_|(refine wK ?_ ?_<;>intro h)|(refine wB ?_ ?_<;>intro h<;>simp only[h]))|simp(maxSteps:=4000000) (disch:=first|decide|assumption|omega|(simp only[wL];omega)) only[go_sem,simprocAttr,hax])
      all_goals (try (exfalso;omega))
      refine .of (.less ?_ (St.le_refl _)) ⟨(i+1,_,q',ex'),rfl,rfl,⟨by simp only;omega,p1,p2,hq⟩,by simp only;omega⟩
      simp(maxSteps:=4000000) (disch:=first|decide|assumption|omega|(simp only[wL];omega)) only[go_sem,simprocAttr,aC,aB]
      all_goals first|rfl|(simp;done)
     ·have hq:res=L++(if kr=true then b.drop j else[]):=by
       rw[hq,List.drop_eq_nil_of_le (by omega:a.length≤i)];simp
      repeat' (first|(with_reducible first|(refine wT ?_;(first|((fail_if_success (have:=nl1));refine wN fun nl1 hnl=>?_)|((fail_if_success (have:=nl2));refine wN fun nl2 hnl=>?_)|refine wN fun _ hnl=>?_);revert hnl;(repeat refine wS fun _ _=>?_);intro hnl)|refine wE ?_|(refine wK ?_ ?_<;>intro h)|(refine wB ?_ ?_<;>intro h<;>simp only[h]))|simp(maxSteps:=4000000) (disch:=first|decide|assumption|omega|(simp only[wL];omega)) only[go_sem,simprocAttr])
      all_goals (try (exfalso;omega))
      refine aG (α:=Nat × List Int × Nat × List (List MV)) (fun z=>⟨103,[(10,.int .i64 (z.1:Int)),(8,.fn (.func 124) [] [.ptr nl2 0 0]),(7,.ptr nl2 0 0),(5,.ptr nl1 0 0),(1,.lst 1 (b.map aW) tb),(0,.lst 1 (a.map aW) ta)],[]⟩)
       (fun z=>alS nl1 nl2 z.2.2.1 (kpO kl kb kr) z.2.1 z.2.2.2) (fun z=>z.1≤b.length∧z.2.2.1≠nl1∧z.2.2.1≠nl2∧res=z.2.1++(if kr=true then b.drop z.1 else[])) (fun z=>b.length - z.1) (.of (.less ?_ (St.le_refl _)) ⟨(j,L,q,ex),rfl,rfl,⟨hj,q1,q2,hq⟩⟩) ?_
      ·simp(maxSteps:=4000000) (disch:=first|decide|assumption|omega|(simp only[wL];omega)) only[go_sem,simprocAttr,aC,aB]
       all_goals first|rfl|(simp;done)
      ·clear hq q1 q2 q1' q2' tk hL hi hlt hj
       rintro⟨j,L,q,ex⟩ ⟨hj,q1,q2,hq⟩
       simp only at hj q1 q2 hq ⊢
       have q1':=Ne.symm q1
       have q2':=Ne.symm q2
       have hL:L.length≤3000000:=by rw[hq,List.length_append] at hlen;omega
       have tk:=fun(x:Int) (c:Bool)=>qJ x c q2 L hL ex
       by_cases hlt:j<b.length
       ·obtain⟨x,hx⟩:=bN b hlt
        have hax:=bK (f:=aW) hx
        have hq:res=(L++if kr=true then[x] else[])++(if kr=true then b.drop (j+1) else[]):=by
         rw[hq,eI hx]
         cases kr<;>simp
        repeat' (first|(refine fQ mixed (fun _ _=>none) [_,_,_,_,_,_,_] [] rfl (by decide +kernel) ?_)|((refine mL d1 q1' q2 (tk _ _) ?_;intro q' ex' p2 p1))|(with_reducible first|(refine wT ?_;(first|((fail_if_success (have:=nl1));refine wN fun nl1 hnl=>?_)|((fail_if_success (have:=nl2));refine wN fun nl2 hnl=>?_)|refine wN fun _ hnl=>?_);revert hnl;(repeat refine wS fun _ _=>?_);intro hnl)|refine wE ?_|(refine wK ?_ ?_<;>intro h)|(refine wB ?_ ?_<;>intro h<;>simp only[h]))|simp(maxSteps:=4000000) (disch:=first|decide|assumption|omega|(simp only[wL];omega)) only[go_sem,simprocAttr,hax])
        all_goals (try (exfalso;omega))
        refine .of (.less ?_ (St.le_refl _)) ⟨(j+1,_,q',ex'),rfl,rfl,⟨by simp only;omega,p1,p2,hq⟩,by simp only;omega⟩
        simp(maxSteps:=4000000) (disch:=first|decide|assumption|omega|(simp only[wL];omega)) only[go_sem,simprocAttr,aC,aB]
        all_goals first|rfl|(simp;done)
       ·have hq:res=L:=by
         rw[hq,List.drop_eq_nil_of_le (by omega:b.length≤j)];simp
        repeat' (first|(with_reducible first|(refine wT ?_;(first|((fail_if_success (have:=nl1));refine wN fun nl1 hnl=>?_)|((fail_if_success (have:=nl2));refine wN fun nl2 hnl=>?_)|refine wN fun _ hnl=>?_);revert hnl;(repeat refine wS fun _ _=>?_);intro hnl)|refine wE ?_|(refine wK ?_ ?_<;>intro h)|(refine wB ?_ ?_<;>intro h<;>simp only[h]))|simp(maxSteps:=4000000) (disch:=first|decide|assumption|omega|(simp only[wL];omega)) only[go_sem,simprocAttr])
        all_goals (try (exfalso;omega))
        all_goals
         rw[hq]
         exact dK (aJ _ _ _) (by simp)
theorem BM(a b:List Int)(ha:a.length≤1000000)(hb:b.length≤1000000)(ha':UpI a)(hb':UpI b)(ta tb:Bool):aA Tryz.prog 42 [.lst 1 (a.map aW) ta,.lst 1 (b.map aW) tb] St.none (fun r _=>r=.lst 1 ((bZ a b).map aW) false):=by
 refine(aA.body 9 [.tmp 4] Tryz.func42 rfl rfl rfl rfl ?_)
 have h:=BA a b ha hb true false false ta tb
 rw[jS _ a b (Nat.le_refl _) ha' hb'] at h
 repeat' (first|(with_reducible first|refine up h ?_)|(with_reducible first|(refine wN fun _ hnl=>?_;revert hnl;(repeat refine wS fun _ _=>?_);intro hnl)|refine wE ?_|(refine wK ?_ ?_<;>intro h)|(refine wB ?_ ?_<;>intro h<;>simp only[h]))|simp(maxSteps:=4000000) (disch:=first|decide|assumption|omega|(simp only[wL];omega)) only[go_sem,simprocAttr,Tryz.f42])
end

section
def N1(es:List (MV × MV)):Prop:=(gN es).Nodup
end

section
set_option maxRecDepth 100000
set_option maxHeartbeats 8000000
def jN(f:F8)(L:List Nat):F8:=L.foldl (fun g i=>g.set i (f.get i)) f80
theorem tQ(f:F8)(m:Nat):∀k,iS f m k=jN f ((List.range k).filter fun i=>bit m i)
 | 0=>rfl
 | k+1=>by
  rw[iS,tQ f m k,List.range_succ,List.filter_append,jN,jN,List.foldl_append]
  by_cases h:bit m k=true
  ·rw[if_pos h];simp[h]
  ·rw[if_neg h];simp[h]
theorem DX(f:F8)(m:Nat):L3 f m=jN f (bF m):=tQ f m 8
theorem DW(c:CA)(m:UInt32):aA Tryz.prog 53 [.agg c.c,.int .u32 (m.toNat:Int)] St.none (fun r _=>r=.agg (gP c m).c):=by
 refine aA.cP (aA.body 34 [.cell 4 42] Tryz.func53 rfl rfl rfl rfl ?_)
 have hml:=nZ m
 have hfl:=o8 m
 have hbl:=pO m.toNat
 obtain⟨ml,hm8⟩:∃b,bit m.toNat 8=b:=⟨_,rfl⟩
 rw[hm8] at hml
 have hlab:(gP c m).c=.int .i64 c.id::.int .i64 c.ver::.int .u32 (((if ml=true then c.lab else 0:UInt32).toNat:Nat):Int)::fc (jN c.f (bF m.toNat)):=by rw[←hm8,←DX];rfl
 rw[hlab]
 clear hm8 hlab
 obtain⟨lb,hlb⟩:∃lb:UInt32,(if ml=true then c.lab else 0)=lb:=⟨_,rfl⟩
 rw[hlb]
 have hlt:∀i,i∈bF m.toNat→i<8:=fun i=>r9
 obtain⟨L,hL⟩:∃L,bF m.toNat=L:=⟨_,rfl⟩
 rw[hL] at hfl hbl hlt ⊢
 have hll:(cW L).length=L.length:=List.length_map _
 cases ml
 all_goals simp only[Bool.false_eq_true,if_false,if_true] at hlb
 ·subst hlb
  repeat' (first|(with_reducible first|refine up hml ?_|refine up hfl ?_)|(with_reducible first|(refine wT ?_;(first|((fail_if_success (have:=nl1));refine wN fun nl1 hnl=>?_)|((fail_if_success (have:=nl2));refine wN fun nl2 hnl=>?_)|((fail_if_success (have:=nl3));refine wN fun nl3 hnl=>?_)|refine wN fun _ hnl=>?_);revert hnl;(repeat refine wS fun _ _=>?_);intro hnl)|refine wE ?_|(refine wK ?_ ?_<;>intro h)|(refine wB ?_ ?_<;>intro h<;>simp only[h]))|simp(maxSteps:=4000000) (disch:=first|exact ddL|fail) only[go_sem,simprocAttr,Tryz.f53,FXs,hll])
  refine aG (α:=Nat) (fun i=>⟨34,[(21,.int .i64 (i:Int)),(20,.int .i64 (L.length:Int)),(19,.lst 1 (cW L) false),(5,.ptr nl3 0 0),(4,.ptr nl2 0 0),(2,.ptr nl1 0 0)],[]⟩)
   (fun i=>((St.none.set nl1 (.row 42 27 [c.c])).set nl2 (.row 42 27 [ca0.c])).set nl3 (.row 42 27 [.int .i64 c.id::.int .i64 c.ver::.int .u32 ((0:UInt32).toNat:Int)::fc (jN c.f (L.take i))])) (fun i=>i≤L.length) (fun i=>L.length - i) (.of (.less ?_ (St.le_refl _)) ⟨0,rfl,rfl,Nat.zero_le _⟩) ?_
  ·simp(maxSteps:=4000000) (disch:=first|exact ddL|fail) only[go_sem,simprocAttr,aC,aB]
   all_goals first|rfl|(simp;done)
  ·intro i hi
   have hi:i≤L.length:=hi
   by_cases hlt':i<L.length
   ·obtain⟨k,hk⟩:=bN L hlt'
    have hat:(cW L).getD i []=[.int .i64 (k:Int)]:=by rw[List.getD_eq_getElem?_getD,List.getElem?_map,hk];rfl
    have hk8:=hlt k (cH hk)
    have hsucc:jN c.f (L.take (i+1))=(jN c.f (L.take i)).set k (c.f.get k):=by rw[bB hk,jN,List.foldl_append];rfl
    obtain⟨g,hg⟩:∃g,jN c.f (L.take i)=g:=⟨_,rfl⟩
    rw[hg] at hsucc ⊢
    repeat' (first|(with_reducible first|(refine wT ?_;(first|((fail_if_success (have:=nl1));refine wN fun nl1 hnl=>?_)|((fail_if_success (have:=nl2));refine wN fun nl2 hnl=>?_)|((fail_if_success (have:=nl3));refine wN fun nl3 hnl=>?_)|refine wN fun _ hnl=>?_);revert hnl;(repeat refine wS fun _ _=>?_);intro hnl)|refine wE ?_|(refine wK ?_ ?_<;>intro h)|(refine wB ?_ ?_<;>intro h<;>simp only[h]))|simp(maxSteps:=4000000) (disch:=first|exact ddL|fail) only[go_sem,simprocAttr,FXs,hat,hll])
    all_goals (try (exfalso;omega))
    all_goals
     refine .of (.less ?_ (St.le_refl _)) ⟨i+1,rfl,by rw[hsucc];first|rfl|skip,(by omega:i+1≤L.length),by omega⟩
     simp(maxSteps:=4000000) (disch:=first|exact ddL|fail) only[go_sem,simprocAttr,aC,aB]
     all_goals first|rfl|(simp;done)
   ·have:i=L.length:=by omega
    subst this
    rw[List.take_length]
    repeat' (first|(with_reducible first|(refine wT ?_;(first|((fail_if_success (have:=nl1));refine wN fun nl1 hnl=>?_)|((fail_if_success (have:=nl2));refine wN fun nl2 hnl=>?_)|((fail_if_success (have:=nl3));refine wN fun nl3 hnl=>?_)|refine wN fun _ hnl=>?_);revert hnl;(repeat refine wS fun _ _=>?_);intro hnl)|refine wE ?_|(refine wK ?_ ?_<;>intro h)|(refine wB ?_ ?_<;>intro h<;>simp only[h]))|simp(maxSteps:=4000000) (disch:=first|exact ddL|fail) only[go_sem,simprocAttr,FXs])
    all_goals first|exact⟨_,St.le_refl _,rfl⟩|exact⟨_,St.le_refl _⟩
 ·subst hlb
  repeat' (first|(with_reducible first|refine up hml ?_|refine up hfl ?_)|(with_reducible first|(refine wT ?_;(first|((fail_if_success (have:=nl1));refine wN fun nl1 hnl=>?_)|((fail_if_success (have:=nl2));refine wN fun nl2 hnl=>?_)|((fail_if_success (have:=nl3));refine wN fun nl3 hnl=>?_)|refine wN fun _ hnl=>?_);revert hnl;(repeat refine wS fun _ _=>?_);intro hnl)|refine wE ?_|(refine wK ?_ ?_<;>intro h)|(refine wB ?_ ?_<;>intro h<;>simp only[h]))|simp(maxSteps:=4000000) (disch:=first|exact ddL|fail) only[go_sem,simprocAttr,Tryz.f53,FXs,hll])
  refine aG (α:=Nat) (fun i=>⟨34,[(21,.int .i64 (i:Int)),(20,.int .i64 (L.length:Int)),(19,.lst 1 (cW L) false),(5,.ptr nl3 0 0),(4,.ptr nl2 0 0),(2,.ptr nl1 0 0)],[]⟩)
   (fun i=>((St.none.set nl1 (.row 42 27 [c.c])).set nl2 (.row 42 27 [ca0.c])).set nl3 (.row 42 27 [.int .i64 c.id::.int .i64 c.ver::.int .u32 (c.lab.toNat:Int)::fc (jN c.f (L.take i))])) (fun i=>i≤L.length) (fun i=>L.length - i) (.of (.less ?_ (St.le_refl _)) ⟨0,rfl,rfl,Nat.zero_le _⟩) ?_
  ·simp(maxSteps:=4000000) (disch:=first|exact ddL|fail) only[go_sem,simprocAttr,aC,aB]
   all_goals first|rfl|(simp;done)
  ·intro i hi
   have hi:i≤L.length:=hi
   by_cases hlt':i<L.length
   ·obtain⟨k,hk⟩:=bN L hlt'
    have hat:(cW L).getD i []=[.int .i64 (k:Int)]:=by rw[List.getD_eq_getElem?_getD,List.getElem?_map,hk];rfl
    have hk8:=hlt k (cH hk)
    have hsucc:jN c.f (L.take (i+1))=(jN c.f (L.take i)).set k (c.f.get k):=by rw[bB hk,jN,List.foldl_append];rfl
    obtain⟨g,hg⟩:∃g,jN c.f (L.take i)=g:=⟨_,rfl⟩
    rw[hg] at hsucc ⊢
    repeat' (first|(with_reducible first|(refine wT ?_;(first|((fail_if_success (have:=nl1));refine wN fun nl1 hnl=>?_)|((fail_if_success (have:=nl2));refine wN fun nl2 hnl=>?_)|((fail_if_success (have:=nl3));refine wN fun nl3 hnl=>?_)|refine wN fun _ hnl=>?_);revert hnl;(repeat refine wS fun _ _=>?_);intro hnl)|refine wE ?_|(refine wK ?_ ?_<;>intro h)|(refine wB ?_ ?_<;>intro h<;>simp only[h]))|simp(maxSteps:=4000000) (disch:=first|exact ddL|fail) only[go_sem,simprocAttr,FXs,hat,hll])
    all_goals (try (exfalso;omega))
    all_goals
     refine .of (.less ?_ (St.le_refl _)) ⟨i+1,rfl,by rw[hsucc];first|rfl|skip,(by omega:i+1≤L.length),by omega⟩
     simp(maxSteps:=4000000) (disch:=first|exact ddL|fail) only[go_sem,simprocAttr,aC,aB]
     all_goals first|rfl|(simp;done)
   ·have:i=L.length:=by omega
    subst this
    rw[List.take_length]
    repeat' (first|(with_reducible first|(refine wT ?_;(first|((fail_if_success (have:=nl1));refine wN fun nl1 hnl=>?_)|((fail_if_success (have:=nl2));refine wN fun nl2 hnl=>?_)|((fail_if_success (have:=nl3));refine wN fun nl3 hnl=>?_)|refine wN fun _ hnl=>?_);revert hnl;(repeat refine wS fun _ _=>?_);intro hnl)|refine wE ?_|(refine wK ?_ ?_<;>intro h)|(refine wB ?_ ?_<;>intro h<;>simp only[h]))|simp(maxSteps:=4000000) (disch:=first|exact ddL|fail) only[go_sem,simprocAttr,FXs])
    all_goals first|exact⟨_,St.le_refl _,rfl⟩|exact⟨_,St.le_refl _⟩
end

section
set_option maxRecDepth 100000
set_option maxHeartbeats 8000000
structure Ow (l:List TU) (es:List (MV × MV)):Prop where
 k:(es.all fun p=>isK .i64 p.1)=true
 o:N1 es
 g:∀id,eT id es=(L0 l id).map fun n=>.int .i64 n
 n:es.length≤l.length
end

section
theorem Le{P:Program}{ops:Array Oper}{F:Fence}(o:Oper)(r:List Oper):∀(l:List Oper),(F=Fence.wide∨∃l0,F=Fence.wide.inRound l0∧∀x,x∈l++o::r→∀c,x.op≠.defer c)→o.guard=none→∀{Q:MQ} {Φ0:Phi} {σ0:St} {w0:World} (f:FR) (σ:St) (Φ:Phi) (w:World) (a:Act),
  dV P ops (fun f σ=>sop P o f σ fun v σ'=>dV P ops (Q .normal) r (bA f o.dst v) σ') l f σ→Inv Φ w σ→cG Φ a.tmps f→cT Φ w a.defers f.d →
  Step Φ0 σ0 w0 Φ σ w→wpListIn F 0 P ops (lift Φ0 σ0 w0 Q) (l++o::r) a w:=by
 intro l
 induction l with
 | nil =>
  intro hF hg Q Φ0 σ0 w0 f σ Φ w a h hi hr hd hs
  have hFo:F=Fence.wide∨∃l0,F=Fence.wide.inRound l0∧∀c,o.op≠.defer c:=hF.imp id fun⟨l0,e,q⟩=>⟨l0,e,q o (by simp)⟩
  have hFr:F=Fence.wide∨∃l0,F=Fence.wide.inRound l0∧∀y,y∈r→∀c,y.op≠.defer c:=hF.imp id fun⟨l0,e,q⟩=>⟨l0,e,fun y ho=>q y (by simp[ho])⟩
  have h:sop P o f σ fun v σ'=>dV P ops (Q .normal) r (bA f o.dst v) σ':=h
  simp only[List.nil_append]
  have h':eR ops f o (sop P o f σ fun v σ'=>dV P ops (Q .normal) r (bA f o.dst v) σ') False:=by unfold eR;rw[hg];exact h
  unfold wpListIn
  rcases cE h' hr with⟨hw,hy⟩|⟨hw,hn⟩
  ·rw[if_pos hw]
   refine fO hFo ?_
   exact h Φ w a _ _ hi hr (fun v mv σ' Φ' w' r1 i1 s1 hk=>tB r hFr _ _ Φ' w' (a.put o.dst v) hk i1 (cI (hr.mono s1.le) o.dst r1) (by rw[bI,dS];exact hd.step hi s1) (hs.trans s1))
  ·exact hn.elim
 | cons x rest ih =>
  intro hF hg Q Φ0 σ0 w0 f σ Φ w a h hi hr hd hs
  have hFr:F=Fence.wide∨∃l0,F=Fence.wide.inRound l0∧∀y,y∈rest++o::r→∀c,y.op≠.defer c:=hF.imp id fun⟨l0,e,q⟩=>⟨l0,e,fun y ho=>q y (List.mem_cons_of_mem _ ho)⟩
  have hFo:F=Fence.wide∨∃l0,F=Fence.wide.inRound l0∧∀c,x.op≠.defer c:=hF.imp id fun⟨l0,e,q⟩=>⟨l0,e,q x (List.mem_cons_self ..)⟩
  have hfn:∀g,F.fn g:=fun g=>by rcases hF with rfl|⟨l,rfl,_⟩<;>trivial
  simp only[dV] at h
  simp only[List.cons_append]
  unfold wpListIn
  rcases cE h hr with⟨hw,hy⟩|⟨hw,hn⟩
  ·rw[if_pos hw]
   refine fO hFo ?_
   by_cases hdef:∃c,x.op=.defer c
   ·obtain⟨c,hc⟩:=hdef
    rw[hc] at hy
    have hy:sZ f c fun f'=>dV P ops (fun f σ=>sop P o f σ fun v σ'=>dV P ops (Q .normal) r (bA f o.dst v) σ') rest (bA f' x.dst .junk) σ:=hy
    obtain⟨d,f',h1,h2,h3,h4⟩:=oZ (P:=P) (w:=w) hc hy hr hd
    unfold Oper.wp
    rw[h1]
    refine ih hFr hg _ _ Φ w _ h4 hi (cI (a:={ a with defers:=d::a.defers }) h2 x.dst (.junk _)) ?_ hs
    rw[bI,dS]
    exact h3
   ·exact jY (fun c hc=>hdef ⟨c,hc⟩) hy Φ w a _ _ hi hr (fun v mv σ' Φ' w' r1 i1 s1 hk=>ih hFr hg _ _ Φ' w' (a.put x.dst v) hk i1 (cI (hr.mono s1.le) x.dst r1) (by rw[bI,dS];exact hd.step hi s1) (hs.trans s1))
  ·rw[if_neg (by simp[hw])]
   exact⟨fun f _=>hfn f,ih hFr hg _ _ Φ w (a.put x.dst undef) hn hi (cI hr x.dst eV) (by rw[bI,dS];exact hd) hs⟩
theorem vL{P:Program}{id:Nat}{ops:Array Oper}{f:FR}{σ:St}{Q:MQ}(l:List Oper)(o:Oper)(r:List Oper)(he:ops.toList=l++o::r)(hg:o.guard=none)
 (h:dV P ops (fun f σ=>sop P o f σ fun v σ'=>dV P ops (Q .normal) r (bA f o.dst v) σ') l f σ):mwp P (.region id ops false) f σ Q :=
 fun F hF Φ w a hi hr hd=>wpIn_region_list (by
  rw[he]
  refine Le o r l ?_ hg f σ Φ w a h hi hr hd (.refl _ _ _)
  have:=hF.ops
  rw[he] at this
  exact this)
theorem tE{P:Program}{id:Nat}{L:List Oper}{f:FR}{σ:St}{Q:MQ}(l:List Oper)(o:Oper)(r:List Oper)(he:L=l++o::r)(hg:o.guard=none)
 (h:R (dV P (@OfNat.ofNat (Array Oper) (nat_lit 0) (@_root_.id (OfNat (Array Oper) (nat_lit 0)) (OfNat.mk (L.toArray)))) (fun f σ=>sop P o f σ fun v σ'=>R (dV P (@OfNat.ofNat (Array Oper) (nat_lit 0) (@_root_.id (OfNat (Array Oper) (nat_lit 0)) (OfNat.mk (L.toArray)))) (Q .normal) r (bA f o.dst v) σ')) l f σ)):mwp P (.region id L.toArray false) f σ Q :=
 vL (ops:=L.toArray) l o r he hg h
theorem D9{P:Program}{o:Oper}{f:FR}{σ:St}{k:MV→St→Prop}{t kt et:TypeId}{x:Operand}(ho:o.op=.call { callee:=.builtin .len,args:=#[x],argTypes:=#[t] })(ht:(td P t).k=.map kt et)
 {l:Nat}{es:List (MV × MV)}(hm:aF f x=.mapv l)(hl:σ l=some (.mp es))(hk:k (.int .i64 (es.length:Int)) σ):sop P o f σ k:=by
 intro Φ w a K Q' hi hr hK
 have hum:=pH ht
 have rm:=aK hr x
 rw[hm] at rm
 obtain⟨p,R,hp,hR,hmv⟩:=rm.lY
 obtain⟨p',R',c,clock,hp',hR',hh,hs,hst,hrel⟩:=(hi.own l _ hl).EU
 rw[hp] at hp';cases hp'
 rw[hR] at hR';cases hR'
 have hop:∀r w',(Builtin.len_ #[t] o.type #[a.eval x]).run P w=.ok r w'→(execOp a.eval o).run P w=.ok (.value r) w':=fun r w' h=>by
  unfold execOp
  simp only[ho,resolve,List.map_toArray,List.map_cons,List.map_nil,Sem.run_bind,Sem.run_pure,Result.andThen_ok,invoke]
  show Sem.run P (do pure (Next.value (←Builtin.len_ #[t] o.type #[a.eval x]))) w=_
  simp only[Sem.run_bind,h,Result.andThen_ok,Sem.run_pure]
 refine bG (hop (.int .i64 (es.length:Int)) w ?_) (hK _ _ _ Φ w (.int _ _) hi (.refl _ _ _) hk)
 rw[hmv]
 simp[Builtin.len_,aM hum,Go.MapKept.run_getObj_map hh,goInt,hs]
end

section
theorem LY{P:Program}{x y:Code}{f:FR}{σ:St}{Q:MQ}{good:FR→St→Prop}(h1:mwp P x f σ (pE (fun f' σ'=>Gh f' σ' good) fun _ _ _=>False))(h2:∀f' σ',good f' σ'→mwp P y f' σ' Q):mwp P (.seq x y) f σ Q:=by
 refine eK (Bu h1 fun e f' σ' h=>?_)
 cases e with
 | normal=>exact DM (fun Φ w vs hi hr=>by
   obtain⟨f1,σ1,Φ1,x1,x2,x3⟩:=h Φ w vs hi hr
   exact⟨f1,σ1,Φ1,x1,h2 f1 σ1 x2,x3⟩)
 | _=>exact h.elim
end
end Go.Proofs.YtaojijkdamfbnaaGreatDoor
