/- Parts of the proof, joined; conditions: those that its theorems name. -/
import Derived.Test.YtaojijkdamfbnaaGreatDoorMfza
set_option linter.unusedVariables false
set_option linter.unusedSimpArgs false
set_option maxHeartbeats 4000000
namespace Go.Proofs.YtaojijkdamfbnaaGreatDoor
section
set_option maxRecDepth 100000
set_option maxHeartbeats 8000000
def fF:Int→List Int→List (List MV)
 | _,[]=>[]
 | s,i::r=>[.int .i64 (s+1),.int .i64 i]::fF (s+1) r
theorem sF:∀(s:Int) (l:List Int),(fF s l).length=l.length
 | _,[]=>rfl
 | s,i::r=>by simp[fF,sF]
theorem wC:∀(s:Int) (l:List Int) (x:Int),fF s (l++[x])=fF s l++[[.int .i64 (s+l.length+1),.int .i64 x]]
 | s,[],x=>by simp[fF]
 | s,i::r,x=>by
  simp only[List.cons_append,fF,wC (s+1) r x,List.length_cons]
  have:s+1+(r.length:Int)+1=s+((r.length+1:Nat):Int)+1:=by omega
  rw[this]
theorem rD{sq:Int}(l:Nat)(g:MV){b p:Nat}(hbp:b≠p)(ids:List Int)(h0:0≤sq)(h1:sq≤1099511627776)(hl:ids.length≤1000000) :
  aA Tryz.prog 109 [.ptr b 0 0,.vec 1 p 0 ids.length] ((St.none.set p (.row 3 1 (ids.map aJ))).set b (bV sq l g)) (fun v σ'=>v=.lst 2 (fF sq ids) false∧σ'=St.none.set b (bV (sq+ids.length) l g)):=by
 refine aA.Fi (aA.body 32 [.tmp 4] Tryz.func109 rfl rfl rfl rfl ?_)
 have hpb:=Ne.symm hbp
 repeat' (first|(with_reducible first|(refine wT ?_;(first|((fail_if_success (have:=nl1));refine wN fun nl1 hnl=>?_)|((fail_if_success (have:=nl2));refine wN fun nl2 hnl=>?_)|refine wN fun _ hnl=>?_);revert hnl;(repeat refine wS fun _ _=>?_);intro hnl)|refine wE ?_|(refine wK ?_ ?_<;>intro h)|(refine wB ?_ ?_<;>intro h<;>simp only[h]))|simp(maxSteps:=4000000) (disch:=first|exact ddL|fail) only[go_sem,simprocAttr,Tryz.f109])
 refine aH (α:=Nat × Nat × List (List MV)) (fun z=>⟨32,[(10,.int .i64 (z.1:Int)),(9,.int .i64 (ids.length:Int)),(8,.vec 1 p 0 ids.length),(5,.vec 2 z.2.1 0 z.1),(0,.ptr b 0 0)],[]⟩)
  (fun z=>((St.none.set p (.row 3 1 (ids.map aJ))).set b (bV (sq+z.1) l g)).set z.2.1 (.row 194 2 (fF sq (ids.take z.1)++z.2.2))) (fun z=>z.1≤ids.length∧z.2.1≠p∧z.2.1≠b) (fun z=>ids.length - z.1) ?_ ?_
 ·refine Gh.qJ 194 2 (fun r=>[(10,.int .i64 0),(9,.int .i64 (ids.length:Int)),(8,.vec 1 p 0 ids.length),(5,.vec 2 r 0 0),(0,.ptr b 0 0)]) (fun k=>by(repeat' (refine And.intro ?_ ?_))<;>first|exact trivial|exact .inl rfl|exact .inr ⟨rfl,.inl rfl⟩|exact .inr ⟨rfl,.inr rfl⟩) fun r hr=>?_
  simp only[aX] at hr
  obtain⟨r1,r2,-⟩:=hr
  exact .done ⟨(0,r,[]),rfl,by simp[fF],Nat.zero_le _,by assumption,by assumption⟩
 ·rintro⟨i,r,xx⟩ ⟨hi,r1,r2⟩
  simp only at hi r1 r2 ⊢
  have r1':=Ne.symm r1
  have r2':=Ne.symm r2
  by_cases hlt:i<ids.length
  ·obtain⟨x,hx⟩:=bO ids hlt
   have hat:=bF (f:=aJ) hx
   have hml:(ids.map aJ).length=ids.length:=List.length_map _
   have htk:=a8 hx
   have hLl:(ids.take i).length=i:=by rw[List.length_take];omega
   obtain⟨L,hL⟩:∃L,ids.take i=L:=⟨_,rfl⟩
   rw[hL] at htk hLl ⊢
   have hsn:=wC sq L x
   rw[hLl] at hsn
   have hcl:=sF sq L
   rw[hLl] at hcl
   obtain⟨Q,hQ⟩:∃Q,fF sq L=Q:=⟨_,rfl⟩
   rw[hQ] at hsn hcl ⊢
   have hdr:(Q++xx).drop (i+1)=xx.drop 1:=by rw[←hcl,←List.drop_drop,List.drop_left]
   have htk':(Q++xx).take i=Q:=List.take_left' hcl
   have hq1:sq+((i+1:Nat):Int)=sq+(i:Int)+1:=by omega
   repeat' (first|(with_reducible first|(refine wT ?_;(first|((fail_if_success (have:=nl1));refine wN fun nl1 hnl=>?_)|((fail_if_success (have:=nl2));refine wN fun nl2 hnl=>?_)|refine wN fun _ hnl=>?_);revert hnl;(repeat refine wS fun _ _=>?_);intro hnl)|refine wE ?_|(refine wK ?_ ?_<;>intro h)|(refine wB ?_ ?_<;>intro h<;>simp only[h]))|simp(maxSteps:=4000000) (disch:=first|exact ddL|fail) only[go_sem,simprocAttr,hat,hml,hcl,htk',hdr])
   all_goals (try (exfalso;omega))
   all_goals
    clear hat htk' hdr
    have p1:nl2≠p:=by assumption
    have p2:nl2≠b:=by assumption
   ·have hex:xx=[]:=List.eq_nil_of_length_eq_zero (by omega)
    subst hex
    clear h
    refine .of (.less ?_ ?_) ⟨(i+1,nl2,[]),rfl,rfl,⟨by simp only;omega,p1,p2⟩,by simp only;omega⟩
    ·simp(maxSteps:=4000000) (disch:=first|exact ddL|fail) only[go_sem,simprocAttr,aC,aB]
     all_goals first|rfl|(simp;done)
    ·simp only[htk,hsn,hq1]
     exact St.aD (St.aD (St.aD (St.none_le _) (by simp[St.set, *])) (by simp[St.set, *])) (by simp[St.set, *])
   ·clear h
    refine .of (.less ?_ ?_) ⟨(i+1,nl2,xx.drop 1),rfl,rfl,⟨by simp only;omega,p1,p2⟩,by simp only;omega⟩
    ·simp(maxSteps:=4000000) (disch:=first|exact ddL|fail) only[go_sem,simprocAttr,aC,aB]
     all_goals first|rfl|(simp;done)
    ·simp only[htk,hsn,hq1]
     exact St.aD (St.aD (St.aD (St.none_le _) (by simp[St.set, *])) (by simp[St.set, *])) (by simp[St.set, *])
  ·have:i=ids.length:=by omega
   subst this
   rw[List.take_length]
   repeat' (first|(with_reducible first|(refine wT ?_;(first|((fail_if_success (have:=nl1));refine wN fun nl1 hnl=>?_)|((fail_if_success (have:=nl2));refine wN fun nl2 hnl=>?_)|refine wN fun _ hnl=>?_);revert hnl;(repeat refine wS fun _ _=>?_);intro hnl)|refine wE ?_|(refine wK ?_ ?_<;>intro h)|(refine wB ?_ ?_<;>intro h<;>simp only[h]))|simp(maxSteps:=4000000) (disch:=first|exact ddL|fail) only[go_sem,simprocAttr])
   all_goals
    exact⟨St.none.set r (.row 194 2 (fF sq ids++xx)),St.aD (St.none_le _) (by simp[St.set, *]),St.aD (St.none_le _) (by simp[St.set, *]),fun k o hk=>(aG _ _ _ _ (fun e=>by subst e;simp[St.set,St.none, *] at hk)).trans rfl,cB (aF _ _ _) (sF _ _).symm⟩
end

section
set_option maxRecDepth 100000
set_option maxHeartbeats 8000000
def u7(a b:Int):Int:=if a<b then -1 else if b<a then 1 else 0
theorem D2(a b:Int):aA Tryz.prog 188 [.int .i64 a,.int .i64 b] St.none (fun r _=>r=.int .i64 (u7 a b)):=by
 refine(aA.body 20 [.tmp 4] Tryz.func188 rfl rfl rfl rfl ?_)
 have h1:=j0 a
 have h2:=j0 b
 rcases Int.lt_trichotomy a b with h|h|h
 ·rw[show u7 a b = -1 from if_pos h]
  repeat' (first|(with_reducible first|refine up h1 ?_|refine up h2 ?_)|(with_reducible first|(refine wN fun _ hnl=>?_;revert hnl;(repeat refine wS fun _ _=>?_);intro hnl)|refine wE ?_|(refine wK ?_ ?_<;>intro h)|(refine wB ?_ ?_<;>intro h<;>simp only[h]))|simp(maxSteps:=4000000) (disch:=first|exact ddL|fail) only[go_sem,simprocAttr,Tryz.f188])
  all_goals (try (exfalso;omega))
 ·rw[show u7 a b=0 from(if_neg (by omega)).trans (if_neg (by omega))]
  repeat' (first|(with_reducible first|refine up h1 ?_|refine up h2 ?_)|(with_reducible first|(refine wN fun _ hnl=>?_;revert hnl;(repeat refine wS fun _ _=>?_);intro hnl)|refine wE ?_|(refine wK ?_ ?_<;>intro h)|(refine wB ?_ ?_<;>intro h<;>simp only[h]))|simp(maxSteps:=4000000) (disch:=first|exact ddL|fail) only[go_sem,simprocAttr,Tryz.f188])
  all_goals (try (exfalso;omega))
 ·rw[show u7 a b=1 from(if_neg (by omega)).trans (if_pos h)]
  repeat' (first|(with_reducible first|refine up h1 ?_|refine up h2 ?_)|(with_reducible first|(refine wN fun _ hnl=>?_;revert hnl;(repeat refine wS fun _ _=>?_);intro hnl)|refine wE ?_|(refine wK ?_ ?_<;>intro h)|(refine wB ?_ ?_<;>intro h<;>simp only[h]))|simp(maxSteps:=4000000) (disch:=first|exact ddL|fail) only[go_sem,simprocAttr,Tryz.f188])
  all_goals (try (exfalso;omega))
theorem rA(x:GR)(g:Int):aA Tryz.prog 187 [.agg x.c,.int .i64 g] St.none (fun r _=>r=.int .i64 (u7 x.no g)):=by
 refine aA.cI (aA.body 9 [.tmp 4] Tryz.func187 rfl rfl rfl rfl ?_)
 have h:=D2 x.no g
 repeat' (first|(with_reducible first|refine up h ?_)|(with_reducible first|(refine wN fun _ hnl=>?_;revert hnl;(repeat refine wS fun _ _=>?_);intro hnl)|refine wE ?_|(refine wK ?_ ?_<;>intro h)|(refine wB ?_ ?_<;>intro h<;>simp only[h]))|simp(maxSteps:=4000000) (disch:=first|exact ddL|fail) only[go_sem,simprocAttr,Tryz.f187])
 all_goals first|exact⟨_,St.le_refl _,rfl⟩|exact⟨_,St.le_refl _⟩
theorem Lu(l:List GR){m:Nat}{x:GR}(h:l[m]?=some x):(l.map GR.no).getD m 0=x.no:=by
 rw[List.getD_eq_getElem?_getD,List.getElem?_map,h];rfl
theorem Hl(l:List GR)(hl:l.length≤1000000)(hu:UpI (l.map GR.no))(g:Int)(t:Bool):aA Tryz.prog 186 [.lst 2 (l.map GR.c) t,.int .i64 g,.fn (.func 187) [] []] St.none (fun r _=>r=.tup [.int .i64 (cM (l.map GR.no) g:Int),.bool (decide (g∈l.map GR.no))]):=by
 refine(aA.body 49 [.tmp 6,.tmp 7] Tryz.func186 rfl rfl rfl rfl ?_)
 have hnl:(l.map GR.no).length=l.length:=List.length_map _
 obtain⟨N,hN⟩:∃N,l.map GR.no=N:=⟨_,rfl⟩
 rw[hN] at hnl hu ⊢
 have hgd:∀{m:Nat} {x:GR},l[m]?=some x→N.getD m 0=x.no:=fun h=>hN ▸ Lu l h
 repeat' (first|(with_reducible first|(refine wN fun _ hnl=>?_;revert hnl;(repeat refine wS fun _ _=>?_);intro hnl)|refine wE ?_|(refine wK ?_ ?_<;>intro h)|(refine wB ?_ ?_<;>intro h<;>simp only[h]))|simp(maxSteps:=4000000) (disch:=first|exact ddL|fail) only[go_sem,simprocAttr,Tryz.f186])
 refine aH (α:=Nat × Nat) (fun a=>⟨49,[(9,.int .i64 (a.1:Int)),(10,.int .i64 (a.2:Int)),(8,.int .i64 (l.length:Int)),(2,.fn (.func 187) [] []),(1,.int .i64 g),(0,.lst 2 (l.map GR.c) t)],[]⟩)
  (fun _=>St.none) (fun a=>a.1≤a.2∧a.2≤l.length∧(∀q,q<a.1→N.getD q 0<g)∧(∀q,a.2≤q→q<N.length→¬N.getD q 0<g)) (fun a=>a.2 - a.1) (.of (.less ?_ (St.le_refl _)) ⟨(0,l.length),rfl,rfl,by simp;omega⟩) ?_
 ·simp(maxSteps:=4000000) (disch:=first|exact ddL|fail) only[go_sem,simprocAttr,aC,aB]
  all_goals first|rfl|omega|simp
 ·rintro⟨i,j⟩ ⟨h1,h2,h3,h4⟩
  simp only at h1 h2 h3 h4 ⊢
  by_cases hij:i<j
  ·have hh:=half i j
   have hm1:i≤(i+j) / 2:=by omega
   have hm2:(i+j) / 2<j:=by omega
   obtain⟨m,hm⟩:∃m,(i+j) / 2=m:=⟨_,rfl⟩
   rw[hm] at hh hm1 hm2
   have hml:m<l.length:=by omega
   obtain⟨x,hx⟩:=bO l hml
   have hat:=bF (f:=GR.c) hx
   have hno:=hgd hx
   have hup:∀a b,a<b→b<N.length→N.getD a 0<N.getD b 0:=fun a b hab hb=>by
    have:=List.pairwise_iff_getElem.1 hu a b (by omega) hb hab
    rw[List.getD_eq_getElem?_getD,List.getD_eq_getElem?_getD,List.getElem?_eq_getElem (by omega:a<N.length),List.getElem?_eq_getElem hb]
    exact this
   have hord:=rA x g
   obtain⟨k,hk⟩:∃k,u7 x.no g=k:=⟨_,rfl⟩
   rw[hk] at hord
   by_cases hless:x.no<g
   ·have hnew:∀q,q<m+1→N.getD q 0<g:=fun q hq=>by
     rcases Nat.lt_or_ge q m with hlt|hge
     ·have:=hup q m hlt (by omega);omega
     ·have:q=m:=by omega
      rw[this,hno];exact hless
    have hkn:k<0:=by rw[←hk,show u7 x.no g = -1 from if_pos hless];omega
    clear hk hless
    repeat' (first|(with_reducible first|refine up hord ?_)|(with_reducible first|(refine wN fun _ hnl=>?_;revert hnl;(repeat refine wS fun _ _=>?_);intro hnl)|refine wE ?_|(refine wK ?_ ?_<;>intro h)|(refine wB ?_ ?_<;>intro h<;>simp only[h]))|simp(maxSteps:=4000000) (disch:=first|exact ddL|fail) only[go_sem,simprocAttr,hat,hh])
    all_goals (try (exfalso;omega))
    refine .of (.less (l1:=[(9,.int .i64 ((m+1:Nat):Int)),(10,.int .i64 (j:Int)),(8,.int .i64 (l.length:Int)),(2,.fn (.func 187) [] []),(1,.int .i64 g),(0,.lst 2 (l.map GR.c) t)]) ?_ (St.le_refl _)) ⟨(m+1,j),rfl,rfl,⟨by simp only;omega,h2,hnew,h4⟩,by simp only;omega⟩
    simp(maxSteps:=4000000) (disch:=first|exact ddL|fail) only[go_sem,simprocAttr,aC,aB]
    all_goals first|rfl|omega|(simp;done)
   ·have hnew:∀q,m≤q→q<N.length→¬N.getD q 0<g:=fun q hq hql=>by
     rcases Nat.lt_or_ge m q with hlt|hge
     ·have:=hup m q hlt hql;omega
     ·have:q=m:=by omega
      rw[this,hno];exact hless
    have hkn:¬k<0:=by
     rw[←hk];unfold u7;rw[if_neg hless];split<;>omega
    clear hk hless
    repeat' (first|(with_reducible first|refine up hord ?_)|(with_reducible first|(refine wN fun _ hnl=>?_;revert hnl;(repeat refine wS fun _ _=>?_);intro hnl)|refine wE ?_|(refine wK ?_ ?_<;>intro h)|(refine wB ?_ ?_<;>intro h<;>simp only[h]))|simp(maxSteps:=4000000) (disch:=first|exact ddL|fail) only[go_sem,simprocAttr,hat,hh])
    all_goals (try (exfalso;omega))
    refine .of (.less (l1:=[(9,.int .i64 (i:Int)),(10,.int .i64 (m:Int)),(8,.int .i64 (l.length:Int)),(2,.fn (.func 187) [] []),(1,.int .i64 g),(0,.lst 2 (l.map GR.c) t)]) ?_ (St.le_refl _)) ⟨(i,m),rfl,rfl,⟨hm1,by simp only;omega,h3,hnew⟩,by simp only;omega⟩
    simp(maxSteps:=4000000) (disch:=first|exact ddL|fail) only[go_sem,simprocAttr,aC,aB]
    all_goals first|rfl|omega|(simp;done)
  ·have:i=j:=by omega
   subst this
   have hp:=wW hu h3 h4
   rw[sC (by omega) h3 h4]
   by_cases hil:i<l.length
   ·obtain⟨x,hx⟩:=bO l hil
    have hat:=bF (f:=GR.c) hx
    have hno:=hgd hx
    have hord:=rA x g
    have hge:=h4 i (Nat.le_refl _) (by omega)
    rw[hno] at hge
    rw[hno] at hp
    by_cases he:x.no=g
    ·rw[decide_eq_true (hp.2 ⟨by omega,he⟩)]
     rw[show u7 x.no g=0 from(if_neg (by omega)).trans (if_neg (by omega))] at hord
     repeat' (first|(with_reducible first|refine up hord ?_)|(with_reducible first|(refine wN fun _ hnl=>?_;revert hnl;(repeat refine wS fun _ _=>?_);intro hnl)|refine wE ?_|(refine wK ?_ ?_<;>intro h)|(refine wB ?_ ?_<;>intro h<;>simp only[h]))|simp(maxSteps:=4000000) (disch:=first|exact ddL|fail) only[go_sem,simprocAttr,hat])
     all_goals (try (exfalso;omega))
     all_goals (first|rfl|(simp;omega))
    ·rw[decide_eq_false fun h=>he (hp.1 h).2]
     rw[show u7 x.no g=1 from(if_neg (by omega)).trans (if_pos (by omega))] at hord
     repeat' (first|(with_reducible first|refine up hord ?_)|(with_reducible first|(refine wN fun _ hnl=>?_;revert hnl;(repeat refine wS fun _ _=>?_);intro hnl)|refine wE ?_|(refine wK ?_ ?_<;>intro h)|(refine wB ?_ ?_<;>intro h<;>simp only[h]))|simp(maxSteps:=4000000) (disch:=first|exact ddL|fail) only[go_sem,simprocAttr,hat])
     all_goals (try (exfalso;omega))
     all_goals (first|rfl|(simp;omega))
   ·rw[decide_eq_false fun h=>hil (by have:=(hp.1 h).1;omega)]
    repeat' (first|(with_reducible first|(refine wN fun _ hnl=>?_;revert hnl;(repeat refine wS fun _ _=>?_);intro hnl)|refine wE ?_|(refine wK ?_ ?_<;>intro h)|(refine wB ?_ ?_<;>intro h<;>simp only[h]))|simp(maxSteps:=4000000) (disch:=first|exact ddL|fail) only[go_sem,simprocAttr])
    all_goals (try (exfalso;omega))
    all_goals (first|rfl|(simp;omega))
theorem tU(l:List GR)(hl:l.length≤1000000)(hu:UpI (l.map GR.no))(g:Int)(t:Bool):aA Tryz.prog 149 [.lst 2 (l.map GR.c) t,.int .i64 g] St.none (fun r _=>r=.tup [.int .i64 (cM (l.map GR.no) g:Int),.bool (decide (g∈l.map GR.no))]):=by
 refine(aA.body 11 [.tmp 4,.tmp 5] Tryz.func149 rfl rfl rfl rfl ?_)
 have h:=Hl l hl hu g t
 repeat' (first|(with_reducible first|refine up h ?_)|(with_reducible first|(refine wN fun _ hnl=>?_;revert hnl;(repeat refine wS fun _ _=>?_);intro hnl)|refine wE ?_|(refine wK ?_ ?_<;>intro h)|(refine wB ?_ ?_<;>intro h<;>simp only[h]))|simp(maxSteps:=4000000) (disch:=first|exact ddL|fail) only[go_sem,simprocAttr,Tryz.f149])
end
end Go.Proofs.YtaojijkdamfbnaaGreatDoor
