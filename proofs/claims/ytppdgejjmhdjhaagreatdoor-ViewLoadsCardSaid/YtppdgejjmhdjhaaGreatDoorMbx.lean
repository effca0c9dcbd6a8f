/- Parts of the proof, joined; conditions: those that its theorems name. -/
import Derived.Test.YtppdgejjmhdjhaaGreatDoorMbw
set_option linter.unusedVariables false
set_option linter.unusedSimpArgs false
set_option maxHeartbeats 4000000
namespace Go.Proofs.YtppdgejjmhdjhaaGreatDoor
set_option maxRecDepth 100000
set_option maxHeartbeats 8000000
theorem sK(nx:Int)(cs:List CA)(ds:List DE)(hl:cs.length≤1000000)(hd:ds.length≤1000000) :
  aA Tryz.prog 111 [.int .i64 nx,.lst 27 (cs.map CA.c) false,.lst 3 (ds.map DE.c) false] St.none (fun v σ'=>(nY nx cs ds=true∧∃m l q ex,l≠m∧q≠m∧q≠l∧v=.tup [.ptr l 0 0,.bool true]∧σ'=shS nx m l q cs ds ex)∨(nY nx cs ds=false∧v=.tup [.nilp,.bool false]∧σ'=St.none)):=by
 refine aA.less (Q':=fun v σ'=>(nY nx cs ds=true∧∃m l q ex,l≠m∧q≠m∧q≠l∧v=.tup [.ptr l 0 0,.bool true]∧(shS nx m l q cs ds ex).le σ')∨(nY nx cs ds=false∧v=.tup [.nilp,.bool false])) (aA.body 128 [.tmp 6,.tmp 7] Tryz.func111 rfl rfl rfl rfl ?_) fun v σ' h=>?_
 rotate_left
 ·rcases h with⟨h0,m,l,q,ex,h1,h2,h3,rfl,h4⟩|⟨h0,rfl⟩
  ·exact⟨_,h4,.inl ⟨h0,m,l,q,ex,h1,h2,h3,rfl,rfl⟩⟩
  ·exact⟨_,St.none_le _,.inr ⟨h0,rfl,rfl⟩⟩
 obtain⟨res,hres⟩:∃b,nY nx cs ds=b:=⟨_,rfl⟩
 rw[hres]
 unfold nY eU at hres
 by_cases h0:1≤nx∧nx≤1073741824∧cs.length≤48∧ds.length≤40
 rotate_left
 ·rw[decide_eq_false h0,Bool.false_and] at hres
  subst hres
  repeat' (first|(with_reducible first|(refine wT ?_;(first|((fail_if_success (have:=nl1));refine wN fun nl1 hnl=>?_)|((fail_if_success (have:=nl2));refine wN fun nl2 hnl=>?_)|((fail_if_success (have:=nl3));refine wN fun nl3 hnl=>?_)|((fail_if_success (have:=nl4));refine wN fun nl4 hnl=>?_)|refine wN fun _ hnl=>?_);revert hnl;(repeat refine wS fun _ _=>?_);intro hnl)|refine wE ?_|(refine wK ?_ ?_<;>intro h)|(refine wB ?_ ?_<;>intro h<;>simp only[h]))|simp(maxSteps:=4000000) (disch:=first|decide|assumption|omega|(simp only[wL];omega)) only[go_sem,simprocAttr,Tryz.f111])
  all_goals first|exact .inr trivial|exact .inr ⟨rfl,rfl⟩|(exfalso;omega)
 ·rw[decide_eq_true h0,Bool.true_and] at hres
  obtain⟨g1,g2,g3,g4⟩:=h0
  repeat' (first|(refine DI wC ?_;(intro m l hm hl hlm;have hml:=Ne.symm hlm))|(with_reducible first|(refine wT ?_;(first|((fail_if_success (have:=nl1));refine wN fun nl1 hnl=>?_)|((fail_if_success (have:=nl2));refine wN fun nl2 hnl=>?_)|((fail_if_success (have:=nl3));refine wN fun nl3 hnl=>?_)|((fail_if_success (have:=nl4));refine wN fun nl4 hnl=>?_)|refine wN fun _ hnl=>?_);revert hnl;(repeat refine wS fun _ _=>?_);intro hnl)|refine wE ?_|(refine wK ?_ ?_<;>intro h)|(refine wB ?_ ?_<;>intro h<;>simp only[h]))|simp(maxSteps:=4000000) (disch:=first|decide|assumption|omega|(simp only[wL];omega)) only[go_sem,simprocAttr,Tryz.f111])
  all_goals (try (exfalso;omega))
  refine aF (α:=Nat) (fun i=>⟨128,[(40,.int .i64 (i:Int)),(39,.int .i64 (cs.length:Int)),(38,.lst 27 (cs.map CA.c) false),(9,.int .i64 (cD (cs.map CA.id) i 0)),(8,.ptr l 0 0),(2,.lst 3 (ds.map DE.c) false),(0,.int .i64 nx)],[]⟩)
   (fun i=>(St.none.set m (.mp (cEs (cs.take i)))).set l (shO nx m .aZ)) (fun i=>i≤cs.length∧dH nx 0 cs=dH nx (cD (cs.map CA.id) i 0) (cs.drop i)∧∀c,c∈cs.take i→c.id≤cD (cs.map CA.id) i 0) (fun i=>cs.length - i) (.of (.less ?_ (le2 (by simp[St.set, *,cEs]) (by simp[St.set, *]))) ⟨0,rfl,rfl,Nat.zero_le _,rfl,by simp⟩) ?_
  ·simp(maxSteps:=4000000) (disch:=first|decide|assumption|omega|(simp only[wL];omega)) only[go_sem,simprocAttr,aC,aB]
   all_goals first|rfl|(simp;done)
  ·rintro i ⟨hi,hq,hle⟩
   by_cases hlt:i<cs.length
   ·obtain⟨x,hx⟩:=bI cs hlt
    rw[dT hx,dH] at hq
    have hat:=bB (f:=CA.c) hx
    have hnext:=fU (gY (f:=CA.id) hx) (z:=0)
    have htk:=aV hx
    have hc:=p6 x
    have hall:=nL (cs.take i)
    have hput:cD (cs.map CA.id) i 0<x.id→cM .i64 x.id (.agg x.c) (cEs (cs.take i))=cEs (cs.take (i+1)):=fun h=>by
     rw[htk]
     refine uC fun hm=>?_
     obtain⟨c,hc,he⟩:=List.mem_map.1 hm
     have:=hle c hc
     omega
    obtain⟨last,hlast⟩:∃k,cD (cs.map CA.id) i 0=k:=⟨_,rfl⟩
    obtain⟨cd,hcd⟩:∃b,dH nx 0 cs=b:=⟨_,rfl⟩
    rw[hlast] at hq hle hput ⊢
    rw[hcd] at hq hres ⊢
    obtain⟨ok,hok⟩:∃b,cW x=b:=⟨_,rfl⟩
    rw[hok] at hc hq
    obtain⟨es,hes⟩:∃es,cEs (cs.take i)=es:=⟨_,rfl⟩
    rw[hes] at hall hput ⊢
    cases ok
    ·rw[Bool.false_and,Bool.false_and] at hq
     rw[hq,Bool.false_and] at hres
     subst hres
     repeat' (first|(with_reducible first|refine up hc ?_)|(with_reducible first|(refine wT ?_;(first|((fail_if_success (have:=nl1));refine wN fun nl1 hnl=>?_)|((fail_if_success (have:=nl2));refine wN fun nl2 hnl=>?_)|((fail_if_success (have:=nl3));refine wN fun nl3 hnl=>?_)|((fail_if_success (have:=nl4));refine wN fun nl4 hnl=>?_)|refine wN fun _ hnl=>?_);revert hnl;(repeat refine wS fun _ _=>?_);intro hnl)|refine wE ?_|(refine wK ?_ ?_<;>intro h)|(refine wB ?_ ?_<;>intro h<;>simp only[h]))|simp(maxSteps:=4000000) (disch:=first|decide|assumption|omega|(simp only[wL];omega)) only[go_sem,simprocAttr,FXs,hat])
     all_goals first|exact .inr trivial|exact .inr ⟨rfl,rfl⟩|(exfalso;omega)
    ·rw[Bool.true_and] at hq
     by_cases hr:last<x.id∧x.id<nx
     ·rw[decide_eq_true hr,Bool.true_and] at hq
      obtain⟨hr1,hr2⟩:=hr
      have hput:=hput hr1
      repeat' (first|(with_reducible first|refine up hc ?_)|(with_reducible first|(refine wT ?_;(first|((fail_if_success (have:=nl1));refine wN fun nl1 hnl=>?_)|((fail_if_success (have:=nl2));refine wN fun nl2 hnl=>?_)|((fail_if_success (have:=nl3));refine wN fun nl3 hnl=>?_)|((fail_if_success (have:=nl4));refine wN fun nl4 hnl=>?_)|refine wN fun _ hnl=>?_);revert hnl;(repeat refine wS fun _ _=>?_);intro hnl)|refine wE ?_|(refine wK ?_ ?_<;>intro h)|(refine wB ?_ ?_<;>intro h<;>simp only[h]))|simp(maxSteps:=4000000) (disch:=first|decide|assumption|omega|(simp only[wL];omega)) only[go_sem,simprocAttr,FXs,hat,hall,hput])
      all_goals (try (exfalso;omega))
      all_goals
       refine .of (.less ?_ (le2 (by simp[St.set, *]) (by simp[St.set, *]))) ⟨i+1,rfl,rfl,⟨by omega,by rw[hnext];exact hq,fun c hc=>?_⟩,by omega⟩
       ·rw[hnext]
        simp(maxSteps:=4000000) (disch:=first|decide|assumption|omega|(simp only[wL];omega)) only[go_sem,simprocAttr,aC,aB]
        all_goals rfl
       ·rw[htk,List.mem_append,List.mem_singleton] at hc
        rw[hnext]
        rcases hc with hc|rfl
        ·have:=hle c hc;omega
        ·omega
     ·rw[decide_eq_false hr,Bool.false_and] at hq
      rw[hq,Bool.false_and] at hres
      subst hres
      repeat' (first|(with_reducible first|refine up hc ?_)|(with_reducible first|(refine wT ?_;(first|((fail_if_success (have:=nl1));refine wN fun nl1 hnl=>?_)|((fail_if_success (have:=nl2));refine wN fun nl2 hnl=>?_)|((fail_if_success (have:=nl3));refine wN fun nl3 hnl=>?_)|((fail_if_success (have:=nl4));refine wN fun nl4 hnl=>?_)|refine wN fun _ hnl=>?_);revert hnl;(repeat refine wS fun _ _=>?_);intro hnl)|refine wE ?_|(refine wK ?_ ?_<;>intro h)|(refine wB ?_ ?_<;>intro h<;>simp only[h]))|simp(maxSteps:=4000000) (disch:=first|decide|assumption|omega|(simp only[wL];omega)) only[go_sem,simprocAttr,FXs,hat])
      all_goals first|exact .inr trivial|exact .inr ⟨rfl,rfl⟩|(exfalso;omega)
   ·have:i=cs.length:=by omega
    subst this
    rw[List.drop_length,dH] at hq
    rw[hq,Bool.true_and] at hres
    clear hq hle
    rw[List.take_length]
    repeat' (first|(with_reducible first|(refine wT ?_;(first|((fail_if_success (have:=nl1));refine wN fun nl1 hnl=>?_)|((fail_if_success (have:=nl2));refine wN fun nl2 hnl=>?_)|((fail_if_success (have:=nl3));refine wN fun nl3 hnl=>?_)|((fail_if_success (have:=nl4));refine wN fun nl4 hnl=>?_)|refine wN fun _ hnl=>?_);revert hnl;(repeat refine wS fun _ _=>?_);intro hnl)|refine wE ?_|(refine wK ?_ ?_<;>intro h)|(refine wB ?_ ?_<;>intro h<;>simp only[h]))|simp(maxSteps:=4000000) (disch:=first|decide|assumption|omega|(simp only[wL];omega)) only[go_sem,simprocAttr])
    refine aF (α:=Nat × Nat × List (List MV)) (fun a=>⟨128,[(71,.int .i64 (a.1:Int)),(70,.int .i64 (ds.length:Int)),(69,.lst 3 (ds.map DE.c) false),(12,.int .i64 (cD (ds.map DE.sq) a.1 0)),(8,.ptr l 0 0),(0,.int .i64 nx)],[]⟩)
     (fun a=>shS nx m l a.2.1 cs (ds.take a.1) a.2.2) (fun a=>a.1≤ds.length∧a.2.1≠m∧a.2.1≠l∧fR nx cs [] ds=fR nx cs (ds.take a.1) (ds.drop a.1)∧0≤cD (ds.map DE.sq) a.1 0∧(∀e,e∈ds.take a.1→e.sq≤cD (ds.map DE.sq) a.1 0)∧(cD (ds.map DE.sq) a.1 0=0∨∃e,e∈ds.take a.1∧e.sq=cD (ds.map DE.sq) a.1 0)) (fun a=>ds.length - a.1) ?_ ?_
    ·refine Gh.vW (b:=l) (t:=251) (e:=3) (pre:=[.int .i64 nx,.mapv m]) (post:=[]) 197 3 (by simp[St.set]) fun q hq=>?_
     have q1:q≠m∧q≠l:=⟨fun e=>by subst e;simp[St.set,hml] at hq,fun e=>by subst e;simp[St.set] at hq⟩
     obtain⟨q1,q2⟩:=q1
     have q1':=Ne.symm q1
     have q2':=Ne.symm q2
     refine .of (.less ?_ (St.aD (le2 (by simp[St.set, *]) (by simp[St.set, *])) (by simp[St.set]))) ⟨(0,q,[]),rfl,rfl,Nat.zero_le _,q1,q2,rfl,Int.le_refl _,by simp,.inl rfl⟩
     simp(maxSteps:=4000000) (disch:=first|decide|assumption|omega|(simp only[wL];omega)) only[go_sem,simprocAttr,aC,aB]
     all_goals first|rfl|(simp;done)
    ·rintro⟨j,q,ex⟩ ⟨hj,q1,q2,hq,hs0,hs1,hs2⟩
     simp only at hj q1 q2 hq hs0 hs1 hs2 ⊢
     have q1':=Ne.symm q1
     have q2':=Ne.symm q2
     by_cases hlt:j<ds.length
     ·obtain⟨d,hd'⟩:=bI ds hlt
      have hat:=bB (f:=DE.c) hd'
      have hnext:=fU (gY (f:=DE.sq) hd') (z:=0)
      have htk:=aV hd'
      rw[dT hd',fR,Mp hs1 hs0 hs2] at hq
      have hLl:(ds.take j).length=j:=by rw[List.length_take];omega
      have hgt:=pE nx hlm q1 q2 cs (ds.take j) (by omega) ex d.id
      obtain⟨L,hL⟩:∃L,ds.take j=L:=⟨_,rfl⟩
      rw[hL] at hq hs1 hs2 htk hLl hgt ⊢
      obtain⟨s,hs⟩:∃k,cD (ds.map DE.sq) j 0=k:=⟨_,rfl⟩
      rw[hs] at hq hs0 hs1 hs2 ⊢
      rw[hres] at hq ⊢
      obtain⟨gc,ge⟩:∃z,fT cs L d.id=z:=⟨_,rfl⟩
      rw[ge] at hq hgt
      obtain⟨gc,e⟩:=gc
      simp only at hq hgt
      have hdr:(L.map DE.c++ex).drop (j+1)=ex.drop 1:=by rw[←hLl];exact kI
      have htk':(L.map DE.c++ex).take j=L.map DE.c:=by rw[←hLl];exact jV
      have hlee:∀{σ:St},σ m=some (.mp (cEs cs))→σ l=some (shO nx m (.vec 3 q 0 L.length))→σ q=some (.row 197 3 (L.map DE.c++ex))→(shS nx m l q cs L ex).le σ:=fun h1 h2 h3=>St.aD (St.aD (St.aD (St.none_le _) h1) h2) h3
      rw[hLl] at hlee
      show R (dC Tryz.prog _ _ (((St.none.set m (.mp (cEs cs))).set l (shO nx m (.vec 3 q 0 L.length))).set q (.row 197 3 (L.map DE.c++ex))) _)
      rw[hLl]
      by_cases hr:1≤d.id∧d.id<nx∧1≤d.ver∧d.ver≤1099511627776∧s≤d.sq∧d.sq≤1099511627776∧e=6
      ·rw[decide_eq_true hr,Bool.true_and] at hq
       obtain⟨e1,e2,e3,e4,e5,e6,rfl⟩:=hr
       repeat' (first|(refine dB hgt (hlee (by simp[St.set, *]) (by simp[St.set, *]) (by simp[St.set, *])) ?_)|(with_reducible first|(refine wT ?_;(first|((fail_if_success (have:=nl1));refine wN fun nl1 hnl=>?_)|((fail_if_success (have:=nl2));refine wN fun nl2 hnl=>?_)|((fail_if_success (have:=nl3));refine wN fun nl3 hnl=>?_)|((fail_if_success (have:=nl4));refine wN fun nl4 hnl=>?_)|refine wN fun _ hnl=>?_);revert hnl;(repeat refine wS fun _ _=>?_);intro hnl)|refine wE ?_|(refine wK ?_ ?_<;>intro h)|(refine wB ?_ ?_<;>intro h<;>simp only[h]))|simp(maxSteps:=4000000) (disch:=first|decide|assumption|omega|(simp only[wL];omega)) only[go_sem,simprocAttr,FYs,hat,hLl,htk',hdr])
       all_goals (try (exfalso;omega))
       all_goals
        have p1:nl4≠m:=by assumption
        have p2:nl4≠l:=by assumption
        have p1':=Ne.symm p1
        have p2':=Ne.symm p2
        have hn0:0≤d.sq:=by omega
        have hn1:∀e,e∈L++[d]→e.sq≤d.sq:=fun e he=>by
         rw[List.mem_append,List.mem_singleton] at he
         rcases he with he|rfl
         ·exact Int.le_trans (hs1 e he) e5
         ·exact Int.le_refl _
        have hn2:d.sq=0∨∃e,e∈L++[d]∧e.sq=d.sq:=.inr ⟨d,by simp,rfl⟩
       ·have hex:ex=[]:=List.eq_nil_of_length_eq_zero (by omega)
        subst hex
        refine .of (.less ?_ (σ1:=shS nx m l nl4 cs (ds.take (j+1)) []) ?_) ⟨(j+1,nl4,[]),rfl,rfl,⟨by simp only;omega,p1,p2,by simp only;rw[htk];exact hq,by simp only;rw[hnext];exact hn0,by simp only;rw[hnext,htk];exact hn1,by simp only;rw[hnext,htk];exact hn2⟩,by simp only;omega⟩
        ·rw[hnext]
         simp(maxSteps:=4000000) (disch:=first|decide|assumption|omega|(simp only[wL];omega)) only[go_sem,simprocAttr,aC,aB]
         all_goals first|rfl|(simp;done)
        ·rw[htk]
         clear hgt hlee hn1 hn2 hs1 hs2 hq htk hdr htk' hnext hat ge hn0 e1 e2 e3 e4 e5 e6 h
         exact St.aD (St.aD (St.aD (St.none_le _) (by simp[St.set, *])) (by simp[St.set, *])) (by simp[St.set, *])
       ·refine .of (.less ?_ (σ1:=shS nx m l nl4 cs (ds.take (j+1)) (ex.drop 1)) ?_) ⟨(j+1,nl4,ex.drop 1),rfl,rfl,⟨by simp only;omega,p1,p2,by simp only;rw[htk];exact hq,by simp only;rw[hnext];exact hn0,by simp only;rw[hnext,htk];exact hn1,by simp only;rw[hnext,htk];exact hn2⟩,by simp only;omega⟩
        ·rw[hnext]
         simp(maxSteps:=4000000) (disch:=first|decide|assumption|omega|(simp only[wL];omega)) only[go_sem,simprocAttr,aC,aB]
         all_goals first|rfl|(simp;done)
        ·rw[htk]
         clear hgt hlee hn1 hn2 hs1 hs2 hq htk hdr htk' hnext hat ge hn0 e1 e2 e3 e4 e5 e6 h
         exact St.aD (St.aD (St.aD (St.none_le _) (by simp[St.set, *])) (by simp[St.set, *])) (by simp[St.set, *])
      ·rw[decide_eq_false hr,Bool.false_and] at hq
       subst hq
       repeat' (first|(refine dB hgt (hlee (by simp[St.set, *]) (by simp[St.set, *]) (by simp[St.set, *])) ?_)|(with_reducible first|(refine wT ?_;(first|((fail_if_success (have:=nl1));refine wN fun nl1 hnl=>?_)|((fail_if_success (have:=nl2));refine wN fun nl2 hnl=>?_)|((fail_if_success (have:=nl3));refine wN fun nl3 hnl=>?_)|((fail_if_success (have:=nl4));refine wN fun nl4 hnl=>?_)|refine wN fun _ hnl=>?_);revert hnl;(repeat refine wS fun _ _=>?_);intro hnl)|refine wE ?_|(refine wK ?_ ?_<;>intro h)|(refine wB ?_ ?_<;>intro h<;>simp only[h]))|simp(maxSteps:=4000000) (disch:=first|decide|assumption|omega|(simp only[wL];omega)) only[go_sem,simprocAttr,FYs,hat,hLl])
       all_goals first|exact .inr trivial|exact .inr ⟨rfl,rfl⟩|(exfalso;omega)
     ·have:j=ds.length:=by omega
      subst this
      rw[List.drop_length,fR] at hq
      rw[←hres,hq,List.take_length]
      repeat' (first|(with_reducible first|(refine wT ?_;(first|((fail_if_success (have:=nl1));refine wN fun nl1 hnl=>?_)|((fail_if_success (have:=nl2));refine wN fun nl2 hnl=>?_)|((fail_if_success (have:=nl3));refine wN fun nl3 hnl=>?_)|((fail_if_success (have:=nl4));refine wN fun nl4 hnl=>?_)|refine wN fun _ hnl=>?_);revert hnl;(repeat refine wS fun _ _=>?_);intro hnl)|refine wE ?_|(refine wK ?_ ?_<;>intro h)|(refine wB ?_ ?_<;>intro h<;>simp only[h]))|simp(maxSteps:=4000000) (disch:=first|decide|assumption|omega|(simp only[wL];omega)) only[go_sem,simprocAttr])
      exact .inl ⟨m,l,q,ex,hlm,q1,q2,rfl,St.le_refl _⟩
end Go.Proofs.YtppdgejjmhdjhaaGreatDoor
