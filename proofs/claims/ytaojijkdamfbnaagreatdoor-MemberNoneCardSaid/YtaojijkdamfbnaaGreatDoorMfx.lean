/- Parts of the proof, joined; conditions: those that its theorems name. -/
import Derived.Test.YtaojijkdamfbnaaGreatDoorMft
import Derived.Test.YtaojijkdamfbnaaGreatDoorMfv
set_option linter.unusedVariables false
set_option linter.unusedSimpArgs false
set_option maxHeartbeats 4000000
namespace Go.Proofs.YtaojijkdamfbnaaGreatDoor
section
set_option maxRecDepth 100000
set_option maxHeartbeats 4000000
abbrev Nf(a:Int):Prop:=-9223372036854775808≤a∧a≤9223372036854775807
end

section
set_option maxRecDepth 100000
set_option maxHeartbeats 4000000
def yS(f:F8):Bool:=(List.range 8).any fun i=>decide (200<(f.get i).s.size)
theorem pD(f:F8):aA Tryz.prog 55 [.agg (fc f)] St.none (fun r _=>r=.bool (yS f)):=by
 refine aA.cI (aA.body 14 [.tmp 2] Tryz.func55 rfl rfl rfl rfl ?_)
 repeat' (first|(with_reducible first|(refine wT ?_;(first|((fail_if_success (have:=nl1));refine wN fun nl1 hnl=>?_)|refine wN fun _ hnl=>?_);revert hnl;(repeat refine wS fun _ _=>?_);intro hnl)|refine wE ?_|(refine wK ?_ ?_<;>intro h)|(refine wB ?_ ?_<;>intro h<;>simp only[h]))|simp(maxSteps:=4000000) (disch:=first|exact ddL|fail) only[go_sem,simprocAttr,Tryz.f55,FXs])
 refine aH (α:=Nat) (fun i=>⟨14,[(3,.int .i64 (i:Int)),(1,.ptr nl1 0 0)],[]⟩)
  (fun _=>St.none.set nl1 (.row 40 24 [fc f])) (fun i=>i≤8∧(List.range i).any (fun i=>decide (200<(f.get i).s.size))=false) (fun i=>8 - i) (.of (.less ?_ (St.le_refl _)) ⟨0,rfl,rfl,Nat.zero_le _,rfl⟩) ?_
 ·simp(maxSteps:=4000000) (disch:=first|exact ddL|fail) only[go_sem,simprocAttr,aC,aB]
  all_goals rfl
 ·rintro i ⟨hi,hq⟩
  by_cases hlt:i<8
  ·have hg:=fun d=>yJ (f:=f) (d:=d) hlt
   obtain⟨v,hv⟩:∃v,f.get i=v:=⟨_,rfl⟩
   rw[hv] at hg
   by_cases hb:200<v.s.size
   ·have e:yS f=true:=List.any_eq_true.2 ⟨i,List.mem_range.2 hlt,by rw[hv];exact decide_eq_true hb⟩
    rw[e]
    repeat' (first|(with_reducible first|(refine wT ?_;(first|((fail_if_success (have:=nl1));refine wN fun nl1 hnl=>?_)|refine wN fun _ hnl=>?_);revert hnl;(repeat refine wS fun _ _=>?_);intro hnl)|refine wE ?_|(refine wK ?_ ?_<;>intro h)|(refine wB ?_ ?_<;>intro h<;>simp only[h]))|simp(maxSteps:=4000000) (disch:=first|exact ddL|fail) only[go_sem,simprocAttr,FXs,hg])
    all_goals first|exact⟨_,St.le_refl _,rfl⟩|exact⟨_,St.le_refl _⟩|(exfalso;omega)
   ·repeat' (first|(with_reducible first|(refine wT ?_;(first|((fail_if_success (have:=nl1));refine wN fun nl1 hnl=>?_)|refine wN fun _ hnl=>?_);revert hnl;(repeat refine wS fun _ _=>?_);intro hnl)|refine wE ?_|(refine wK ?_ ?_<;>intro h)|(refine wB ?_ ?_<;>intro h<;>simp only[h]))|simp(maxSteps:=4000000) (disch:=first|exact ddL|fail) only[go_sem,simprocAttr,FXs,hg])
    all_goals (try (exfalso;omega))
    refine .of (.less ?_ (St.le_refl _)) ⟨i+1,rfl,rfl,⟨by omega,?_⟩,by omega⟩
    ·simp(maxSteps:=4000000) (disch:=first|exact ddL|fail) only[go_sem,simprocAttr,aC,aB]
     all_goals rfl
    ·rw[List.range_succ,List.any_append,hq,List.any_cons,List.any_nil,hv,decide_eq_false hb];rfl
  ·have hie:i=8:=by omega
   subst hie
   have e:yS f=false:=hq
   rw[e]
   repeat' (first|(with_reducible first|(refine wT ?_;(first|((fail_if_success (have:=nl1));refine wN fun nl1 hnl=>?_)|refine wN fun _ hnl=>?_);revert hnl;(repeat refine wS fun _ _=>?_);intro hnl)|refine wE ?_|(refine wK ?_ ?_<;>intro h)|(refine wB ?_ ?_<;>intro h<;>simp only[h]))|simp(maxSteps:=4000000) (disch:=first|exact ddL|fail) only[go_sem,simprocAttr])
   all_goals first|exact⟨_,St.le_refl _,rfl⟩|exact⟨_,St.le_refl _⟩
end

section
def cV(kl kb kr:Bool):List Int→List Int→List Int
 | [],b=>if kr=true then b else[]
 | x::a,[]=>if kl=true then x::a else[]
 | x::a,y::b=>if x<y then(if kl=true then[x] else[])++cV kl kb kr a (y::b) else if y<x then(if kr=true then[y] else[])++cV kl kb kr (x::a) b else(if kb=true then[x] else[])++cV kl kb kr a b
termination_by a b=>a.length+b.length
theorem mR{kl kb kr:Bool}{b:List Int}:cV kl kb kr [] b=if kr=true then b else[]:=by rw[cV]
theorem jS{kl kb kr:Bool}:∀{a:List Int},cV kl kb kr a []=if kl=true then a else[]
 | []=>by rw[cV];split<;>simp
 | x::a=>by rw[cV]
theorem oV{kl kb kr:Bool}{x y:Int}{a b:List Int}(h:x<y):cV kl kb kr (x::a) (y::b)=(if kl=true then[x] else[])++cV kl kb kr a (y::b):=by rw[cV,if_pos h]
theorem oU{kl kb kr:Bool}{x y:Int}{a b:List Int}(h:y<x):cV kl kb kr (x::a) (y::b)=(if kr=true then[y] else[])++cV kl kb kr (x::a) b:=by rw[cV,if_neg (by omega),if_pos h]
theorem oT{kl kb kr:Bool}{x y:Int}{a b:List Int}(h1:¬x<y)(h2:¬y<x):cV kl kb kr (x::a) (y::b)=(if kb=true then[x] else[])++cV kl kb kr a b:=by rw[cV,if_neg h1,if_neg h2]
theorem mQ{kl kb kr:Bool}:∀(n:Nat) (a b:List Int),a.length+b.length≤n→(cV kl kb kr a b).length≤a.length+b.length
 | n,[],b,h=>by rw[mR];split<;>simp
 | n,x::a,[],h=>by rw[jS];split<;>simp
 | 0,x::a,y::b,h=>by simp at h
 | n+1,x::a,y::b,h=>by
  simp only[List.length_cons] at h
  by_cases h1:x<y
  ·rw[oV h1,List.length_append]
   have:=mQ (kl:=kl) (kb:=kb) (kr:=kr) n a (y::b) (by simp;omega)
   simp only[List.length_cons] at this ⊢
   have h3:(if kl=true then[x] else[]).length≤1:=by split<;>simp
   omega
  ·by_cases h2:y<x
   ·rw[oU h2,List.length_append]
    have:=mQ (kl:=kl) (kb:=kb) (kr:=kr) n (x::a) b (by simp;omega)
    simp only[List.length_cons] at this ⊢
    have h3:(if kr=true then[y] else[]).length≤1:=by split<;>simp
    omega
   ·rw[oT h1 h2,List.length_append]
    have:=mQ (kl:=kl) (kb:=kb) (kr:=kr) n a b (by omega)
    simp only[List.length_cons] at this ⊢
    have h3:(if kb=true then[x] else[]).length≤1:=by split<;>simp
    omega
abbrev UpI(l:List Int):Prop:=l.Pairwise (·<·)
theorem jR:∀(n:Nat) (a b:List Int),a.length+b.length≤n→UpI a→UpI b→cV true false false a b=bG a b
 | n,[],b,h,_,_=>by rw[mR];rfl
 | n,x::a,[],h,_,_=>by
  rw[jS,bG,if_pos rfl]
  exact(List.filter_eq_self.2 fun _ _=>rfl).symm
 | 0,x::a,y::b,h,_,_=>by simp at h
 | n+1,x::a,y::b,h,ha,hb=>by
  simp only[List.length_cons] at h
  obtain⟨ha1,ha2⟩:=List.pairwise_cons.1 ha
  obtain⟨hb1,hb2⟩:=List.pairwise_cons.1 hb
  by_cases h1:x<y
  ·rw[oV h1,jR n a (y::b) (by simp;omega) ha2 hb,if_pos rfl]
   have hx:x∉y::b:=fun hm=>by
    rcases List.mem_cons.1 hm with e|hm
    ·omega
    ·have:=hb1 x hm;omega
   simp only[bG,List.filter_cons,hx,decide_false,Bool.not_false,if_true]
   rfl
  ·by_cases h2:y<x
   ·rw[oU h2,jR n (x::a) b (by simp;omega) ha hb2,if_neg (by simp),List.nil_append]
    unfold bG
    refine List.filter_congr fun z hz=>?_
    have:z≠y:=fun e=>by
     rcases List.mem_cons.1 hz with e'|hz
     ·omega
     ·have:=ha1 z hz;omega
    simp[this]
   ·have e:x=y:=by omega
    subst e
    rw[oT h1 h2,jR n a b (by omega) ha2 hb2,if_neg (by simp),List.nil_append]
    have h3:bG a (x::b)=bG a b:=by
     unfold bG
     refine List.filter_congr fun z hz=>?_
     have:z≠x:=fun e=>by have:=ha1 z hz;omega
     simp[this]
    rw[←h3]
    simp[bG]
theorem kL:∀(n:Nat) (a b:List Int),a.length+b.length≤n→UpI a→UpI b→cV false true false a b=a.filter fun x=>decide (x∈b)
 | n,[],b,h,_,_=>by rw[mR];rfl
 | n,x::a,[],h,_,_=>by
  rw[jS]
  simp
 | 0,x::a,y::b,h,_,_=>by simp at h
 | n+1,x::a,y::b,h,ha,hb=>by
  simp only[List.length_cons] at h
  obtain⟨ha1,ha2⟩:=List.pairwise_cons.1 ha
  obtain⟨hb1,hb2⟩:=List.pairwise_cons.1 hb
  by_cases h1:x<y
  ·rw[oV h1,kL n a (y::b) (by simp;omega) ha2 hb,if_neg (by simp),List.nil_append]
   have hx:x∉y::b:=fun hm=>by
    rcases List.mem_cons.1 hm with e|hm
    ·omega
    ·have:=hb1 x hm;omega
   rw[List.filter_cons,if_neg (by simpa using hx)]
  ·by_cases h2:y<x
   ·rw[oU h2,kL n (x::a) b (by simp;omega) ha hb2,if_neg (by simp),List.nil_append]
    refine List.filter_congr fun z hz=>?_
    have:z≠y:=fun e=>by
     rcases List.mem_cons.1 hz with e'|hz
     ·omega
     ·have:=ha1 z hz;omega
    simp[this]
   ·have e:x=y:=by omega
    subst e
    rw[oT h1 h2,kL n a b (by omega) ha2 hb2,if_pos rfl]
    have h3:a.filter (fun z=>decide (z∈x::b))=a.filter fun z=>decide (z∈b):=by
     refine List.filter_congr fun z hz=>?_
     have:z≠x:=fun e=>by have:=ha1 z hz;omega
     simp[this]
    rw[List.filter_cons,if_pos (by simp),h3]
    rfl
theorem Ag:∀{last:Int} {l:List Int},eV last l=true→UpI l∧∀x,x∈l→last<x∧1≤x∧x<1073741824
 | _,[],_=>⟨.nil,by simp⟩
 | last,x::l,h=>by
  rw[eV,Bool.and_eq_true,decide_eq_true_eq] at h
  obtain⟨⟨h1,h2,h3⟩,h4⟩:=h
  unfold fY at h3
  obtain⟨i1,i2⟩:=Ag h4
  refine⟨List.pairwise_cons.2 ⟨fun y hy=>(i2 y hy).1,i1⟩,fun y hy=>?_⟩
  rcases List.mem_cons.1 hy with rfl|hy
  ·exact⟨h1,h2,h3⟩
  ·obtain⟨a,b,c⟩:=i2 y hy
   exact⟨by omega,b,c⟩
theorem Cm{nx last:Int}{cs:List CA}(h:dC nx last cs=true):UpI (cs.map CA.id):=List.pairwise_map.2 (jU h).2
end

section
set_option maxRecDepth 100000
set_option maxHeartbeats 8000000
abbrev kpO(kl kb kr:Bool):aV:=.row 149 3 [[.bool kl,.bool kb,.bool kr]]
abbrev tkO(q n:Nat):aV:=.row 46 1 [[.vec 1 q 0 n]]
abbrev tkR(L:List Int)(ex:List (List MV)):aV:=.row 3 1 (L.map aJ++ex)
def L4(x:Int)(b:Bool)(l q:Nat)(L L':List Int)(ex:List (List MV)):Prop :=
 aA Tryz.prog 124 [.int .i64 x,.bool b,.ptr l 0 0] ((St.none.set l (tkO q L.length)).set q (tkR L ex)) (fun v σ'=>v=.tup []∧∃q' ex',q'≠l∧σ'=(St.none.set l (tkO q' L'.length)).set q' (tkR L' ex'))
theorem qQ(x:Int)(b:Bool){l q:Nat}(hql:q≠l)(L:List Int)(hL:L.length≤3000000)(ex:List (List MV)):L4 x b l q L (L++(if b=true then[x] else[])) ex:=by
 refine aA.less (Q':=fun v σ'=>v=.tup []∧∃q' ex',q'≠l∧((St.none.set l (tkO q' (L++(if b=true then[x] else[])).length)).set q' (tkR (L++(if b=true then[x] else[])) ex')).le σ') (aA.body 10 [] Tryz.func124 rfl rfl rfl rfl ?_) fun v σ' ⟨h1,q',ex',h2,h3⟩=>⟨_,h3,h1,q',ex',h2,rfl⟩
 have hlq:=Ne.symm hql
 cases b
 ·simp only[Bool.false_eq_true,if_false,List.append_nil]
  repeat' (first|(with_reducible first|(refine wT ?_;(first|((fail_if_success (have:=nl1));refine wN fun nl1 hnl=>?_)|((fail_if_success (have:=nl2));refine wN fun nl2 hnl=>?_)|refine wN fun _ hnl=>?_);revert hnl;(repeat refine wS fun _ _=>?_);intro hnl)|refine wE ?_|(refine wK ?_ ?_<;>intro h)|(refine wB ?_ ?_<;>intro h<;>simp only[h]))|simp(maxSteps:=4000000) (disch:=first|exact ddL|fail) only[go_sem,simprocAttr,Tryz.f124])
  all_goals exact⟨q,ex,hql,St.le_refl _⟩
 ·simp only[if_true,List.length_append,List.length_singleton]
  have hLm:(L.map aJ).length=L.length:=List.length_map _
  obtain⟨n,hn⟩:∃n,L.length=n:=⟨_,rfl⟩
  have hdr:(L.map aJ++ex).drop (n+1)=ex.drop 1:=by rw[←hn];exact jF
  have htk':(L.map aJ++ex).take n=L.map aJ:=by rw[←hn];exact iP
  have hfin:∀{σ:St} {q':Nat} {ex':List (List MV)},q'≠l→σ l=some (tkO q' (n+1))→σ q'=some (tkR (L++[x]) ex')→∃q' ex',¬q'=l∧((St.none.set l (tkO q' (n+1))).set q' (tkR (L++[x]) ex')).le σ:=fun h1 h2 h3=>⟨_,_,h1,le2 h2 h3⟩
  rw[hn] at hLm ⊢
  repeat' (first|(with_reducible first|(refine wT ?_;(first|((fail_if_success (have:=nl1));refine wN fun nl1 hnl=>?_)|((fail_if_success (have:=nl2));refine wN fun nl2 hnl=>?_)|refine wN fun _ hnl=>?_);revert hnl;(repeat refine wS fun _ _=>?_);intro hnl)|refine wE ?_|(refine wK ?_ ?_<;>intro h)|(refine wB ?_ ?_<;>intro h<;>simp only[h]))|simp(maxSteps:=4000000) (disch:=first|exact ddL|fail) only[go_sem,simprocAttr,Tryz.f124,FYs,htk',hdr,hLm])
  all_goals
   have d1:nl2≠l:=by assumption
   have d2:=Ne.symm d1
  ·have hex:ex=[]:=List.eq_nil_of_length_eq_zero (by omega)
   subst hex
   clear h
   exact hfin (ex':=[]) d1 (by simp[St.set, *]) (by simp[St.set, *])
  ·exact hfin (ex':=ex.drop 1) d1 (by simp[St.set, *]) (by simp[St.set, *])
end

section
set_option maxRecDepth 100000
set_option maxHeartbeats 8000000
abbrev alS(k l q:Nat)(K:aV)(L:List Int)(ex:List (List MV)):St:=((St.none.set k K).set l (tkO q L.length)).set q (tkR L ex)
theorem mN{k l q:Nat}{K:aV}{x:Int}{b:Bool}{L L':List Int}{ex:List (List MV)}{kk:MV→St→Prop}(hkl:k≠l)(hkq:k≠q)(hql:q≠l)(h:L4 x b l q L L' ex)
 (hk:∀q' ex',q'≠l→q'≠k→R (bR (.tup []) (alS k l q' K L' ex') kk)):R (cX Tryz.prog 124 [.int .i64 x,.bool b,.ptr l 0 0] (alS k l q K L ex) kk) :=
 cA h (le2 (by simp[St.set,Ne.symm hql]) (by simp[St.set])) fun v σ' hv hf=>by
  obtain⟨rfl,q',ex',h1,rfl⟩:=hv
  have hqk:q'≠k:=fun e=>by
   subst e
   rcases hf q' _ (aF _ _ _) with h|⟨o',h⟩
   ·simp[St.set,hkl,hkq] at h
   ·simp[St.set,hkl,hkq,St.none] at h
  have e:((St.none.set l (tkO q' L'.length)).set q' (tkR L' ex')).over ((alS k l q K L ex).minus ((St.none.set l (tkO q L.length)).set q (tkR L ex)))=alS k l q' K L' ex':=by
   funext j
   by_cases j1:j=q'
   ·subst j1;simp[St.over,St.set]
   ·by_cases j2:j=l
    ·subst j2;simp[St.over,St.set,j1]
    ·by_cases j3:j=q
     ·subst j3;simp[St.over,St.set,St.minus,St.none,j1,j2,Ne.symm hkq]
     ·simp[St.over,St.set,St.minus,St.none,j1,j2,j3]
  rw[e]
  exact hk q' ex' h1 hqk
theorem q0(a b:List Int)(ha:a.length≤1000000)(hb:b.length≤1000000)(kl kb kr:Bool)(ta tb:Bool) :
  aA Tryz.prog 82 [.lst 1 (a.map aJ) ta,.lst 1 (b.map aJ) tb,.agg [.bool kl,.bool kb,.bool kr]] St.none (fun r _=>r=.lst 1 ((cV kl kb kr a b).map aJ) false):=by
 refine aA.seen (aA.body 103 [.tmp 6] Tryz.func82 rfl rfl rfl rfl ?_)
 repeat' (first|(with_reducible first|(refine wT ?_;(first|((fail_if_success (have:=nl1));refine wN fun nl1 hnl=>?_)|((fail_if_success (have:=nl2));refine wN fun nl2 hnl=>?_)|refine wN fun _ hnl=>?_);revert hnl;(repeat refine wS fun _ _=>?_);intro hnl)|refine wE ?_|(refine wK ?_ ?_<;>intro h)|(refine wB ?_ ?_<;>intro h<;>simp only[h]))|simp(maxSteps:=4000000) (disch:=first|decide|assumption|omega|(simp only[wL];omega)) only[go_sem,simprocAttr,Tryz.f82])
 have d1:nl1≠nl2:=by assumption
 have d2:=Ne.symm d1
 have hlen:=mQ (kl:=kl) (kb:=kb) (kr:=kr) _ a b (Nat.le_refl _)
 obtain⟨res,hres⟩:∃res,cV kl kb kr a b=res:=⟨_,rfl⟩
 rw[hres] at hlen ⊢
 refine aH (α:=Nat × Nat × List Int × Nat × List (List MV)) (fun z=>⟨103,[(10,.int .i64 (z.2.1:Int)),(9,.int .i64 (z.1:Int)),(8,.fn (.func 124) [] [.ptr nl2 0 0]),(7,.ptr nl2 0 0),(5,.ptr nl1 0 0),(1,.lst 1 (b.map aJ) tb),(0,.lst 1 (a.map aJ) ta)],[]⟩)
  (fun z=>alS nl1 nl2 z.2.2.2.1 (kpO kl kb kr) z.2.2.1 z.2.2.2.2) (fun z=>z.1≤a.length∧z.2.1≤b.length∧z.2.2.2.1≠nl1∧z.2.2.2.1≠nl2∧res=z.2.2.1++cV kl kb kr (a.drop z.1) (b.drop z.2.1)) (fun z=>a.length - z.1+(b.length - z.2.1)) ?_ ?_
 ·refine Gh.rH (b:=nl2) (t:=46) (e:=1) (pre:=[]) (post:=[]) 3 1 (by simp[St.set]) fun q hq=>?_
  have q1:q≠nl1∧q≠nl2:=⟨fun e=>by subst e;simp[St.set,d1] at hq,fun e=>by subst e;simp[St.set] at hq⟩
  obtain⟨q1,q2⟩:=q1
  have q1':=Ne.symm q1
  have q2':=Ne.symm q2
  refine .of (.less ?_ (St.aD (le2 (by simp[St.set, *]) (by simp[St.set, *])) (by simp[St.set]))) ⟨(0,0,[],q,[]),rfl,rfl,⟨Nat.zero_le _,Nat.zero_le _,q1,q2,hres.symm⟩⟩
  simp(maxSteps:=4000000) (disch:=first|decide|assumption|omega|(simp only[wL];omega)) only[go_sem,simprocAttr,aC,aB]
  all_goals first|rfl|(simp;done)
 ·rintro⟨i,j,L,q,ex⟩ ⟨hi,hj,q1,q2,hq⟩
  simp only at hi hj q1 q2 hq ⊢
  have q1':=Ne.symm q1
  have q2':=Ne.symm q2
  have hL:L.length≤3000000:=by rw[hq,List.length_append] at hlen;omega
  have tk:=fun(x:Int) (c:Bool)=>qQ x c q2 L hL ex
  by_cases hlt:i<a.length∧j<b.length
  ·obtain⟨h1,h2⟩:=hlt
   obtain⟨x,hx⟩:=bO a h1
   obtain⟨y,hy⟩:=bO b h2
   rw[dZ hx,dZ hy] at hq
   have hax:=bF (f:=aJ) hx
   have hay:=bF (f:=aJ) hy
   by_cases hc:x<y
   ·rw[oV hc,←dZ hy,←List.append_assoc] at hq
    repeat' (first|(refine dW mixed (fun _ _=>none) [_,_,_,_,_,_,_] [] rfl (by decide +kernel) ?_)|((refine mN d1 q1' q2 (tk _ _) ?_;intro q' ex' p2 p1))|(with_reducible first|(refine wT ?_;(first|((fail_if_success (have:=nl1));refine wN fun nl1 hnl=>?_)|((fail_if_success (have:=nl2));refine wN fun nl2 hnl=>?_)|refine wN fun _ hnl=>?_);revert hnl;(repeat refine wS fun _ _=>?_);intro hnl)|refine wE ?_|(refine wK ?_ ?_<;>intro h)|(refine wB ?_ ?_<;>intro h<;>simp only[h]))|simp(maxSteps:=4000000) (disch:=first|decide|assumption|omega|(simp only[wL];omega)) only[go_sem,simprocAttr,hax,hay])
    all_goals (try (exfalso;omega))
    refine .of (.less ?_ (St.le_refl _)) ⟨(i+1,j,_,q',ex'),rfl,rfl,⟨by simp only;omega,hj,p1,p2,hq⟩,by simp only;omega⟩
    simp(maxSteps:=4000000) (disch:=first|decide|assumption|omega|(simp only[wL];omega)) only[go_sem,simprocAttr,aC,aB]
    all_goals first|rfl|(simp;done)
   ·by_cases hd:y<x
    ·rw[oU hd,←dZ hx,←List.append_assoc] at hq
     repeat' (first|(refine dW mixed (fun _ _=>none) [_,_,_,_,_,_,_] [] rfl (by decide +kernel) ?_)|((refine mN d1 q1' q2 (tk _ _) ?_;intro q' ex' p2 p1))|(with_reducible first|(refine wT ?_;(first|((fail_if_success (have:=nl1));refine wN fun nl1 hnl=>?_)|((fail_if_success (have:=nl2));refine wN fun nl2 hnl=>?_)|refine wN fun _ hnl=>?_);revert hnl;(repeat refine wS fun _ _=>?_);intro hnl)|refine wE ?_|(refine wK ?_ ?_<;>intro h)|(refine wB ?_ ?_<;>intro h<;>simp only[h]))|simp(maxSteps:=4000000) (disch:=first|decide|assumption|omega|(simp only[wL];omega)) only[go_sem,simprocAttr,hax,hay])
     all_goals (try (exfalso;omega))
     refine .of (.less ?_ (St.le_refl _)) ⟨(i,j+1,_,q',ex'),rfl,rfl,⟨hi,by simp only;omega,p1,p2,hq⟩,by simp only;omega⟩
     simp(maxSteps:=4000000) (disch:=first|decide|assumption|omega|(simp only[wL];omega)) only[go_sem,simprocAttr,aC,aB]
     all_goals first|rfl|(simp;done)
    ·rw[oT hc hd,←List.append_assoc] at hq
     repeat' (first|(refine dW mixed (fun _ _=>none) [_,_,_,_,_,_,_] [] rfl (by decide +kernel) ?_)|((refine mN d1 q1' q2 (tk _ _) ?_;intro q' ex' p2 p1))|(with_reducible first|(refine wT ?_;(first|((fail_if_success (have:=nl1));refine wN fun nl1 hnl=>?_)|((fail_if_success (have:=nl2));refine wN fun nl2 hnl=>?_)|refine wN fun _ hnl=>?_);revert hnl;(repeat refine wS fun _ _=>?_);intro hnl)|refine wE ?_|(refine wK ?_ ?_<;>intro h)|(refine wB ?_ ?_<;>intro h<;>simp only[h]))|simp(maxSteps:=4000000) (disch:=first|decide|assumption|omega|(simp only[wL];omega)) only[go_sem,simprocAttr,hax,hay])
     all_goals (try (exfalso;omega))
     refine .of (.less ?_ (St.le_refl _)) ⟨(i+1,j+1,_,q',ex'),rfl,rfl,⟨by simp only;omega,by simp only;omega,p1,p2,hq⟩,by simp only;omega⟩
     simp(maxSteps:=4000000) (disch:=first|decide|assumption|omega|(simp only[wL];omega)) only[go_sem,simprocAttr,aC,aB]
     all_goals first|rfl|(simp;done)
  ·have hr1:i<a.length→b.drop j=[]:=fun h=>List.drop_eq_nil_of_le (by omega)
   have hst:res=L++((if kl=true then a.drop i else[])++(if kr=true then b.drop j else[])):=by
    by_cases h:i<a.length
    ·rw[hq,hr1 h,jS];simp
    ·rw[hq,List.drop_eq_nil_of_le (by omega:a.length≤i),mR];simp
   clear hq hr1
   repeat' (first|(with_reducible first|(refine wT ?_;(first|((fail_if_success (have:=nl1));refine wN fun nl1 hnl=>?_)|((fail_if_success (have:=nl2));refine wN fun nl2 hnl=>?_)|refine wN fun _ hnl=>?_);revert hnl;(repeat refine wS fun _ _=>?_);intro hnl)|refine wE ?_|(refine wK ?_ ?_<;>intro h)|(refine wB ?_ ?_<;>intro h<;>simp only[h]))|simp(maxSteps:=4000000) (disch:=first|decide|assumption|omega|(simp only[wL];omega)) only[go_sem,simprocAttr])
   all_goals (try (exfalso;omega))
   all_goals
    refine aH (α:=Nat × List Int × Nat × List (List MV)) (fun z=>⟨103,[(10,.int .i64 (j:Int)),(9,.int .i64 (z.1:Int)),(8,.fn (.func 124) [] [.ptr nl2 0 0]),(7,.ptr nl2 0 0),(5,.ptr nl1 0 0),(1,.lst 1 (b.map aJ) tb),(0,.lst 1 (a.map aJ) ta)],[]⟩)
     (fun z=>alS nl1 nl2 z.2.2.1 (kpO kl kb kr) z.2.1 z.2.2.2) (fun z=>z.1≤a.length∧z.2.2.1≠nl1∧z.2.2.1≠nl2∧res=z.2.1++((if kl=true then a.drop z.1 else[])++(if kr=true then b.drop j else[]))) (fun z=>a.length - z.1) (.of (.less ?_ (St.le_refl _)) ⟨(i,L,q,ex),rfl,rfl,⟨hi,q1,q2,hst⟩⟩) ?_
    ·simp(maxSteps:=4000000) (disch:=first|decide|assumption|omega|(simp only[wL];omega)) only[go_sem,simprocAttr,aC,aB]
     all_goals first|rfl|(simp;done)
    ·clear hst q1 q2 q1' q2' tk hL hi hlt
     rintro⟨i,L,q,ex⟩ ⟨hi,q1,q2,hq⟩
     simp only at hi q1 q2 hq ⊢
     have q1':=Ne.symm q1
     have q2':=Ne.symm q2
     have hL:L.length≤3000000:=by rw[hq,List.length_append] at hlen;omega
     have tk:=fun(x:Int) (c:Bool)=>qQ x c q2 L hL ex
     by_cases hlt:i<a.length
     ·obtain⟨x,hx⟩:=bO a hlt
      have hax:=bF (f:=aJ) hx
      have hq:res=(L++if kl=true then[x] else[])++((if kl=true then a.drop (i+1) else[])++(if kr=true then b.drop j else[])):=by
       rw[hq,dZ hx]
       cases kl<;>simp
      repeat' (first|(refine dW mixed (fun _ _=>none) [_,_,_,_,_,_,_] [] rfl (by decide +kernel) ?_)|((refine mN d1 q1' q2 (tk _ _) ?_;intro q' ex' p2 p1))|(with_reducible first|(refine wT ?_;(first|((fail_if_success (have:=nl1));refine wN fun nl1 hnl=>?_)|((fail_if_success (have:=nl2));refine wN fun nl2 hnl=>?_)|refine wN fun _ hnl=>?_);revert hnl;(repeat refine wS fun _ _=>?_);intro hnl)|refine wE ?_|(refine wK ?_ ?_<;>intro h)|(refine wB ?_ ?_<;>intro h<;>simp only[h]))|simp(maxSteps:=4000000) (disch:=first|decide|assumption|omega|(simp only[wL];omega)) only[go_sem,simprocAttr,hax])
      all_goals (try (exfalso;omega))
      refine .of (.less ?_ (St.le_refl _)) ⟨(i+1,_,q',ex'),rfl,rfl,⟨by simp only;omega,p1,p2,hq⟩,by simp only;omega⟩
      simp(maxSteps:=4000000) (disch:=first|decide|assumption|omega|(simp only[wL];omega)) only[go_sem,simprocAttr,aC,aB]
      all_goals first|rfl|(simp;done)
     ·have hq:res=L++(if kr=true then b.drop j else[]):=by
       rw[hq,List.drop_eq_nil_of_le (by omega:a.length≤i)];simp
      repeat' (first|(with_reducible first|(refine wT ?_;(first|((fail_if_success (have:=nl1));refine wN fun nl1 hnl=>?_)|((fail_if_success (have:=nl2));refine wN fun nl2 hnl=>?_)|refine wN fun _ hnl=>?_);revert hnl;(repeat refine wS fun _ _=>?_);intro hnl)|refine wE ?_|(refine wK ?_ ?_<;>intro h)|(refine wB ?_ ?_<;>intro h<;>simp only[h]))|simp(maxSteps:=4000000) (disch:=first|decide|assumption|omega|(simp only[wL];omega)) only[go_sem,simprocAttr])
      all_goals (try (exfalso;omega))
      refine aH (α:=Nat × List Int × Nat × List (List MV)) (fun z=>⟨103,[(10,.int .i64 (z.1:Int)),(8,.fn (.func 124) [] [.ptr nl2 0 0]),(7,.ptr nl2 0 0),(5,.ptr nl1 0 0),(1,.lst 1 (b.map aJ) tb),(0,.lst 1 (a.map aJ) ta)],[]⟩)
       (fun z=>alS nl1 nl2 z.2.2.1 (kpO kl kb kr) z.2.1 z.2.2.2) (fun z=>z.1≤b.length∧z.2.2.1≠nl1∧z.2.2.1≠nl2∧res=z.2.1++(if kr=true then b.drop z.1 else[])) (fun z=>b.length - z.1) (.of (.less ?_ (St.le_refl _)) ⟨(j,L,q,ex),rfl,rfl,⟨hj,q1,q2,hq⟩⟩) ?_
      ·simp(maxSteps:=4000000) (disch:=first|decide|assumption|omega|(simp only[wL];omega)) only[go_sem,simprocAttr,aC,aB]
       all_goals first|rfl|(simp;done)
      ·clear hq q1 q2 q1' q2' tk hL hi hlt hj
       rintro⟨j,L,q,ex⟩ ⟨hj,q1,q2,hq⟩
       simp only at hj q1 q2 hq ⊢
       have q1':=Ne.symm q1
       have q2':=Ne.symm q2
       have hL:L.length≤3000000:=by rw[hq,List.length_append] at hlen;omega
       have tk:=fun(x:Int) (c:Bool)=>qQ x c q2 L hL ex
       by_cases hlt:j<b.length
       ·obtain⟨x,hx⟩:=bO b hlt
        have hax:=bF (f:=aJ) hx
        have hq:res=(L++if kr=true then[x] else[])++(if kr=true then b.drop (j+1) else[]):=by
         rw[hq,dZ hx]
         cases kr<;>simp
        repeat' (first|(refine dW mixed (fun _ _=>none) [_,_,_,_,_,_,_] [] rfl (by decide +kernel) ?_)|((refine mN d1 q1' q2 (tk _ _) ?_;intro q' ex' p2 p1))|(with_reducible first|(refine wT ?_;(first|((fail_if_success (have:=nl1));refine wN fun nl1 hnl=>?_)|((fail_if_success (have:=nl2));refine wN fun nl2 hnl=>?_)|refine wN fun _ hnl=>?_);revert hnl;(repeat refine wS fun _ _=>?_);intro hnl)|refine wE ?_|(refine wK ?_ ?_<;>intro h)|(refine wB ?_ ?_<;>intro h<;>simp only[h]))|simp(maxSteps:=4000000) (disch:=first|decide|assumption|omega|(simp only[wL];omega)) only[go_sem,simprocAttr,hax])
        all_goals (try (exfalso;omega))
        refine .of (.less ?_ (St.le_refl _)) ⟨(j+1,_,q',ex'),rfl,rfl,⟨by simp only;omega,p1,p2,hq⟩,by simp only;omega⟩
        simp(maxSteps:=4000000) (disch:=first|decide|assumption|omega|(simp only[wL];omega)) only[go_sem,simprocAttr,aC,aB]
        all_goals first|rfl|(simp;done)
       ·have hq:res=L:=by
         rw[hq,List.drop_eq_nil_of_le (by omega:b.length≤j)];simp
        repeat' (first|(with_reducible first|(refine wT ?_;(first|((fail_if_success (have:=nl1));refine wN fun nl1 hnl=>?_)|((fail_if_success (have:=nl2));refine wN fun nl2 hnl=>?_)|refine wN fun _ hnl=>?_);revert hnl;(repeat refine wS fun _ _=>?_);intro hnl)|refine wE ?_|(refine wK ?_ ?_<;>intro h)|(refine wB ?_ ?_<;>intro h<;>simp only[h]))|simp(maxSteps:=4000000) (disch:=first|decide|assumption|omega|(simp only[wL];omega)) only[go_sem,simprocAttr])
        all_goals (try (exfalso;omega))
        all_goals
         rw[hq]
         exact cB (aF _ _ _) (by simp)
theorem mF(a b:List Int)(ha:a.length≤1000000)(hb:b.length≤1000000)(ha':UpI a)(hb':UpI b)(ta tb:Bool):aA Tryz.prog 42 [.lst 1 (a.map aJ) ta,.lst 1 (b.map aJ) tb] St.none (fun r _=>r=.lst 1 ((bG a b).map aJ) false):=by
 refine(aA.body 9 [.tmp 4] Tryz.func42 rfl rfl rfl rfl ?_)
 have h:=q0 a b ha hb true false false ta tb
 rw[jR _ a b (Nat.le_refl _) ha' hb'] at h
 repeat' (first|(with_reducible first|refine up h ?_)|(with_reducible first|(refine wN fun _ hnl=>?_;revert hnl;(repeat refine wS fun _ _=>?_);intro hnl)|refine wE ?_|(refine wK ?_ ?_<;>intro h)|(refine wB ?_ ?_<;>intro h<;>simp only[h]))|simp(maxSteps:=4000000) (disch:=first|decide|assumption|omega|(simp only[wL];omega)) only[go_sem,simprocAttr,Tryz.f42])
theorem D1(a b:List Int)(ha:a.length≤1000000)(hb:b.length≤1000000)(ha':UpI a)(hb':UpI b)(ta tb:Bool):aA Tryz.prog 58 [.lst 1 (a.map aJ) ta,.lst 1 (b.map aJ) tb] St.none (fun r _=>r=.lst 1 ((a.filter fun x=>decide (x∈b)).map aJ) false):=by
 refine(aA.body 9 [.tmp 4] Tryz.func58 rfl rfl rfl rfl ?_)
 have h:=q0 a b ha hb false true false ta tb
 rw[kL _ a b (Nat.le_refl _) ha' hb'] at h
 repeat' (first|(with_reducible first|refine up h ?_)|(with_reducible first|(refine wN fun _ hnl=>?_;revert hnl;(repeat refine wS fun _ _=>?_);intro hnl)|refine wE ?_|(refine wK ?_ ?_<;>intro h)|(refine wB ?_ ?_<;>intro h<;>simp only[h]))|simp(maxSteps:=4000000) (disch:=first|decide|assumption|omega|(simp only[wL];omega)) only[go_sem,simprocAttr,Tryz.f58])
end

section
def Oc(es:List (MV × MV)):Prop:=(gL es).Nodup
end

section
set_option maxRecDepth 100000
set_option maxHeartbeats 8000000
def jL(f:F8)(L:List Nat):F8:=L.foldl (fun g i=>g.set i (f.get i)) f80
theorem tY(f:F8)(m:Nat):∀k,BW f m k=jL f ((List.range k).filter fun i=>bit m i)
 | 0=>rfl
 | k+1=>by
  rw[BW,tY f m k,List.range_succ,List.filter_append,jL,jL,List.foldl_append]
  by_cases h:bit m k=true
  ·rw[if_pos h];simp[h]
  ·rw[if_neg h];simp[h]
theorem Ea(f:F8)(m:Nat):Mg f m=jL f (bJ m):=tY f m 8
theorem D8(c:CA)(m:UInt32):aA Tryz.prog 53 [.agg c.c,.int .u32 (m.toNat:Int)] St.none (fun r _=>r=.agg (gM c m).c):=by
 refine aA.cI (aA.body 34 [.cell 4 42] Tryz.func53 rfl rfl rfl rfl ?_)
 have hml:=oF m
 have hfl:=pB m
 have hbl:=pU m.toNat
 obtain⟨ml,hm8⟩:∃b,bit m.toNat 8=b:=⟨_,rfl⟩
 rw[hm8] at hml
 have hlab:(gM c m).c=.int .i64 c.id::.int .i64 c.ver::.int .u32 (((if ml=true then c.lab else 0:UInt32).toNat:Nat):Int)::fc (jL c.f (bJ m.toNat)):=by rw[←hm8,←Ea];rfl
 rw[hlab]
 clear hm8 hlab
 obtain⟨lb,hlb⟩:∃lb:UInt32,(if ml=true then c.lab else 0)=lb:=⟨_,rfl⟩
 rw[hlb]
 have hlt:∀i,i∈bJ m.toNat→i<8:=fun i=>sD
 obtain⟨L,hL⟩:∃L,bJ m.toNat=L:=⟨_,rfl⟩
 rw[hL] at hfl hbl hlt ⊢
 have hll:(cW L).length=L.length:=List.length_map _
 cases ml
 all_goals simp only[Bool.false_eq_true,if_false,if_true] at hlb
 ·subst hlb
  repeat' (first|(with_reducible first|refine up hml ?_|refine up hfl ?_)|(with_reducible first|(refine wT ?_;(first|((fail_if_success (have:=nl1));refine wN fun nl1 hnl=>?_)|((fail_if_success (have:=nl2));refine wN fun nl2 hnl=>?_)|((fail_if_success (have:=nl3));refine wN fun nl3 hnl=>?_)|refine wN fun _ hnl=>?_);revert hnl;(repeat refine wS fun _ _=>?_);intro hnl)|refine wE ?_|(refine wK ?_ ?_<;>intro h)|(refine wB ?_ ?_<;>intro h<;>simp only[h]))|simp(maxSteps:=4000000) (disch:=first|exact ddL|fail) only[go_sem,simprocAttr,Tryz.f53,FXs,hll])
  refine aH (α:=Nat) (fun i=>⟨34,[(21,.int .i64 (i:Int)),(20,.int .i64 (L.length:Int)),(19,.lst 1 (cW L) false),(5,.ptr nl3 0 0),(4,.ptr nl2 0 0),(2,.ptr nl1 0 0)],[]⟩)
   (fun i=>((St.none.set nl1 (.row 42 27 [c.c])).set nl2 (.row 42 27 [ca0.c])).set nl3 (.row 42 27 [.int .i64 c.id::.int .i64 c.ver::.int .u32 ((0:UInt32).toNat:Int)::fc (jL c.f (L.take i))])) (fun i=>i≤L.length) (fun i=>L.length - i) (.of (.less ?_ (St.le_refl _)) ⟨0,rfl,rfl,Nat.zero_le _⟩) ?_
  ·simp(maxSteps:=4000000) (disch:=first|exact ddL|fail) only[go_sem,simprocAttr,aC,aB]
   all_goals first|rfl|(simp;done)
  ·intro i hi
   have hi:i≤L.length:=hi
   by_cases hlt':i<L.length
   ·obtain⟨k,hk⟩:=bO L hlt'
    have hat:(cW L).getD i []=[.int .i64 (k:Int)]:=by rw[List.getD_eq_getElem?_getD,List.getElem?_map,hk];rfl
    have hk8:=hlt k (dP hk)
    have hsucc:jL c.f (L.take (i+1))=(jL c.f (L.take i)).set k (c.f.get k):=by rw[a8 hk,jL,List.foldl_append];rfl
    obtain⟨g,hg⟩:∃g,jL c.f (L.take i)=g:=⟨_,rfl⟩
    rw[hg] at hsucc ⊢
    repeat' (first|(with_reducible first|(refine wT ?_;(first|((fail_if_success (have:=nl1));refine wN fun nl1 hnl=>?_)|((fail_if_success (have:=nl2));refine wN fun nl2 hnl=>?_)|((fail_if_success (have:=nl3));refine wN fun nl3 hnl=>?_)|refine wN fun _ hnl=>?_);revert hnl;(repeat refine wS fun _ _=>?_);intro hnl)|refine wE ?_|(refine wK ?_ ?_<;>intro h)|(refine wB ?_ ?_<;>intro h<;>simp only[h]))|simp(maxSteps:=4000000) (disch:=first|exact ddL|fail) only[go_sem,simprocAttr,FXs,hat,hll])
    all_goals (try (exfalso;omega))
    all_goals
     refine .of (.less ?_ (St.le_refl _)) ⟨i+1,rfl,by rw[hsucc];first|rfl|skip,(by omega:i+1≤L.length),by omega⟩
     simp(maxSteps:=4000000) (disch:=first|exact ddL|fail) only[go_sem,simprocAttr,aC,aB]
     all_goals first|rfl|(simp;done)
   ·have:i=L.length:=by omega
    subst this
    rw[List.take_length]
    repeat' (first|(with_reducible first|(refine wT ?_;(first|((fail_if_success (have:=nl1));refine wN fun nl1 hnl=>?_)|((fail_if_success (have:=nl2));refine wN fun nl2 hnl=>?_)|((fail_if_success (have:=nl3));refine wN fun nl3 hnl=>?_)|refine wN fun _ hnl=>?_);revert hnl;(repeat refine wS fun _ _=>?_);intro hnl)|refine wE ?_|(refine wK ?_ ?_<;>intro h)|(refine wB ?_ ?_<;>intro h<;>simp only[h]))|simp(maxSteps:=4000000) (disch:=first|exact ddL|fail) only[go_sem,simprocAttr,FXs])
    all_goals first|exact⟨_,St.le_refl _,rfl⟩|exact⟨_,St.le_refl _⟩
 ·subst hlb
  repeat' (first|(with_reducible first|refine up hml ?_|refine up hfl ?_)|(with_reducible first|(refine wT ?_;(first|((fail_if_success (have:=nl1));refine wN fun nl1 hnl=>?_)|((fail_if_success (have:=nl2));refine wN fun nl2 hnl=>?_)|((fail_if_success (have:=nl3));refine wN fun nl3 hnl=>?_)|refine wN fun _ hnl=>?_);revert hnl;(repeat refine wS fun _ _=>?_);intro hnl)|refine wE ?_|(refine wK ?_ ?_<;>intro h)|(refine wB ?_ ?_<;>intro h<;>simp only[h]))|simp(maxSteps:=4000000) (disch:=first|exact ddL|fail) only[go_sem,simprocAttr,Tryz.f53,FXs,hll])
  refine aH (α:=Nat) (fun i=>⟨34,[(21,.int .i64 (i:Int)),(20,.int .i64 (L.length:Int)),(19,.lst 1 (cW L) false),(5,.ptr nl3 0 0),(4,.ptr nl2 0 0),(2,.ptr nl1 0 0)],[]⟩)
   (fun i=>((St.none.set nl1 (.row 42 27 [c.c])).set nl2 (.row 42 27 [ca0.c])).set nl3 (.row 42 27 [.int .i64 c.id::.int .i64 c.ver::.int .u32 (c.lab.toNat:Int)::fc (jL c.f (L.take i))])) (fun i=>i≤L.length) (fun i=>L.length - i) (.of (.less ?_ (St.le_refl _)) ⟨0,rfl,rfl,Nat.zero_le _⟩) ?_
  ·simp(maxSteps:=4000000) (disch:=first|exact ddL|fail) only[go_sem,simprocAttr,aC,aB]
   all_goals first|rfl|(simp;done)
  ·intro i hi
   have hi:i≤L.length:=hi
   by_cases hlt':i<L.length
   ·obtain⟨k,hk⟩:=bO L hlt'
    have hat:(cW L).getD i []=[.int .i64 (k:Int)]:=by rw[List.getD_eq_getElem?_getD,List.getElem?_map,hk];rfl
    have hk8:=hlt k (dP hk)
    have hsucc:jL c.f (L.take (i+1))=(jL c.f (L.take i)).set k (c.f.get k):=by rw[a8 hk,jL,List.foldl_append];rfl
    obtain⟨g,hg⟩:∃g,jL c.f (L.take i)=g:=⟨_,rfl⟩
    rw[hg] at hsucc ⊢
    repeat' (first|(with_reducible first|(refine wT ?_;(first|((fail_if_success (have:=nl1));refine wN fun nl1 hnl=>?_)|((fail_if_success (have:=nl2));refine wN fun nl2 hnl=>?_)|((fail_if_success (have:=nl3));refine wN fun nl3 hnl=>?_)|refine wN fun _ hnl=>?_);revert hnl;(repeat refine wS fun _ _=>?_);intro hnl)|refine wE ?_|(refine wK ?_ ?_<;>intro h)|(refine wB ?_ ?_<;>intro h<;>simp only[h]))|simp(maxSteps:=4000000) (disch:=first|exact ddL|fail) only[go_sem,simprocAttr,FXs,hat,hll])
    all_goals (try (exfalso;omega))
    all_goals
     refine .of (.less ?_ (St.le_refl _)) ⟨i+1,rfl,by rw[hsucc];first|rfl|skip,(by omega:i+1≤L.length),by omega⟩
     simp(maxSteps:=4000000) (disch:=first|exact ddL|fail) only[go_sem,simprocAttr,aC,aB]
     all_goals first|rfl|(simp;done)
   ·have:i=L.length:=by omega
    subst this
    rw[List.take_length]
    repeat' (first|(with_reducible first|(refine wT ?_;(first|((fail_if_success (have:=nl1));refine wN fun nl1 hnl=>?_)|((fail_if_success (have:=nl2));refine wN fun nl2 hnl=>?_)|((fail_if_success (have:=nl3));refine wN fun nl3 hnl=>?_)|refine wN fun _ hnl=>?_);revert hnl;(repeat refine wS fun _ _=>?_);intro hnl)|refine wE ?_|(refine wK ?_ ?_<;>intro h)|(refine wB ?_ ?_<;>intro h<;>simp only[h]))|simp(maxSteps:=4000000) (disch:=first|exact ddL|fail) only[go_sem,simprocAttr,FXs])
    all_goals first|exact⟨_,St.le_refl _,rfl⟩|exact⟨_,St.le_refl _⟩
end
end Go.Proofs.YtaojijkdamfbnaaGreatDoor
