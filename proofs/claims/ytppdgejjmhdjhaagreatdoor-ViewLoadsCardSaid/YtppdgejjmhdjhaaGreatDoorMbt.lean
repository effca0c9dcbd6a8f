/- Parts of the proof, joined; conditions: those that its theorems name. -/
import Derived.Test.YtppdgejjmhdjhaaGreatDoorMbs
set_option linter.unusedVariables false
set_option linter.unusedSimpArgs false
set_option maxHeartbeats 4000000
namespace Go.Proofs.YtppdgejjmhdjhaaGreatDoor
set_option maxRecDepth 100000
set_option maxHeartbeats 8000000
abbrev Lq(nx:Int)(cs:List CA)(ds:List DE):aW:=.row 38 3 [[.int .i64 nx,.lst 27 (cs.map CA.c) false,.lst 3 (ds.map DE.c) false]]
theorem yD(nx:Int)(cs:List CA)(ds:List DE)(hl:cs.length≤1000000)(id:Int):aA Tryz.prog 168 [.agg [.int .i64 nx,.lst 27 (cs.map CA.c) false,.lst 3 (ds.map DE.c) false],.int .i64 id] St.none (fun r _=>r=.int .i64 (fW (cs.map CA.id) id)):=by
 refine aA.bZ (aA.body 22 [.tmp 4] Tryz.func168 rfl rfl rfl rfl ?_)
 repeat' (first|(with_reducible first|(refine wT ?_;(first|((fail_if_success (have:=nl1));refine wN fun nl1 hnl=>?_)|refine wN fun _ hnl=>?_);revert hnl;(repeat refine wS fun _ _=>?_);intro hnl)|refine wE ?_|(refine wK ?_ ?_<;>intro h)|(refine wB ?_ ?_<;>intro h<;>simp only[h]))|simp(maxSteps:=4000000) (disch:=first|decide|assumption|omega|(simp only[wL];omega)) only[go_sem,simprocAttr,Tryz.f168])
 refine aF (α:=Nat) (fun i=>⟨22,[(5,.int .i64 (i:Int)),(2,.ptr nl1 0 0),(1,.int .i64 id)],[]⟩) (fun _=>St.none.set nl1 (Lq nx cs ds)) (fun i=>i≤cs.length∧id∉(cs.map CA.id).take i) (fun i=>cs.length - i) (.of (.less ?_ (St.le_refl _)) ⟨0,rfl,rfl,Nat.zero_le _,by simp⟩) ?_
 ·simp(maxSteps:=4000000) (disch:=first|decide|assumption|omega|(simp only[wL];omega)) only[go_sem,simprocAttr,aC,aB]
  all_goals rfl
 ·rintro i ⟨hi,hq⟩
  by_cases hlt:i<cs.length
  ·obtain⟨y,hy⟩:=bI cs hlt
   have hat:=bB (f:=CA.c) hy
   have hmem:=cZ (gY (f:=CA.id) hy)
   have hnext:id≠y.id→id∉(cs.map CA.id).take (i+1):=fun h=>by
    rw[aV (gY (f:=CA.id) hy),List.mem_append,List.mem_singleton]
    exact not_or.2 ⟨hq,h⟩
   by_cases he:y.id=id
   ·have hi':=J8 (gY (f:=CA.id) hy) (by rw[he];exact hq)
    rw[he] at hi' hmem
    have hp:fW (cs.map CA.id) id=i:=by unfold fW;rw[if_pos hmem,hi']
    rw[hp]
    repeat' (first|(with_reducible first|(refine wT ?_;(first|((fail_if_success (have:=nl1));refine wN fun nl1 hnl=>?_)|refine wN fun _ hnl=>?_);revert hnl;(repeat refine wS fun _ _=>?_);intro hnl)|refine wE ?_|(refine wK ?_ ?_<;>intro h)|(refine wB ?_ ?_<;>intro h<;>simp only[h]))|simp(maxSteps:=4000000) (disch:=first|decide|assumption|omega|(simp only[wL];omega)) only[go_sem,simprocAttr,FXs,hat,he])
    all_goals first|exact⟨_,St.le_refl _,rfl⟩|exact⟨_,St.le_refl _⟩|(exfalso;omega)
   ·repeat' (first|(with_reducible first|(refine wT ?_;(first|((fail_if_success (have:=nl1));refine wN fun nl1 hnl=>?_)|refine wN fun _ hnl=>?_);revert hnl;(repeat refine wS fun _ _=>?_);intro hnl)|refine wE ?_|(refine wK ?_ ?_<;>intro h)|(refine wB ?_ ?_<;>intro h<;>simp only[h]))|simp(maxSteps:=4000000) (disch:=first|decide|assumption|omega|(simp only[wL];omega)) only[go_sem,simprocAttr,FXs,hat])
    all_goals (try (exfalso;omega))
    all_goals
     refine .of (.less ?_ (St.le_refl _)) ⟨i+1,rfl,rfl,⟨by omega,by rw[List.map_take];exact hnext (Ne.symm he)⟩,by omega⟩
     simp(maxSteps:=4000000) (disch:=first|decide|assumption|omega|(simp only[wL];omega)) only[go_sem,simprocAttr,aC,aB]
     all_goals rfl
  ·have:i=cs.length:=by omega
   subst this
   have hp:fW (cs.map CA.id) id = -1:=by unfold fW;rw[if_neg (by rw[List.take_of_length_le (by simp)] at hq;exact hq)]
   rw[hp]
   repeat' (first|(with_reducible first|(refine wT ?_;(first|((fail_if_success (have:=nl1));refine wN fun nl1 hnl=>?_)|refine wN fun _ hnl=>?_);revert hnl;(repeat refine wS fun _ _=>?_);intro hnl)|refine wE ?_|(refine wK ?_ ?_<;>intro h)|(refine wB ?_ ?_<;>intro h<;>simp only[h]))|simp(maxSteps:=4000000) (disch:=first|decide|assumption|omega|(simp only[wL];omega)) only[go_sem,simprocAttr])
   all_goals first|exact⟨_,St.le_refl _,rfl⟩|exact⟨_,St.le_refl _⟩
theorem yE(nx:Int)(cs:List CA)(ds:List DE)(hl:cs.length≤1000000)(hd:ds.length≤1000000):aA Tryz.prog 108 [.agg [.int .i64 nx,.lst 27 (cs.map CA.c) false,.lst 3 (ds.map DE.c) false]] St.none (fun r _=>r=.bool (nY nx cs ds)):=by
 refine aA.bZ (aA.body 146 [.tmp 2] Tryz.func108 rfl rfl rfl rfl ?_)
 obtain⟨res,hres⟩:∃b,nY nx cs ds=b:=⟨_,rfl⟩
 rw[hres]
 unfold nY eU at hres
 by_cases h0:1≤nx∧nx≤1073741824∧cs.length≤48∧ds.length≤40
 rotate_left
 ·rw[decide_eq_false h0,Bool.false_and] at hres
  subst hres
  repeat' (first|(with_reducible first|(refine wT ?_;(first|((fail_if_success (have:=nl1));refine wN fun nl1 hnl=>?_)|((fail_if_success (have:=nl2));refine wN fun nl2 hnl=>?_)|refine wN fun _ hnl=>?_);revert hnl;(repeat refine wS fun _ _=>?_);intro hnl)|refine wE ?_|(refine wK ?_ ?_<;>intro h)|(refine wB ?_ ?_<;>intro h<;>simp only[h]))|simp(maxSteps:=4000000) (disch:=first|decide|assumption|omega|(simp only[wL];omega)) only[go_sem,simprocAttr,Tryz.f108])
  all_goals first|exact⟨_,St.le_refl _,rfl⟩|exact⟨_,St.le_refl _⟩|(exfalso;omega)
 ·rw[decide_eq_true h0,Bool.true_and] at hres
  obtain⟨g1,g2,g3,g4⟩:=h0
  repeat' (first|(with_reducible first|(refine wT ?_;(first|((fail_if_success (have:=nl1));refine wN fun nl1 hnl=>?_)|((fail_if_success (have:=nl2));refine wN fun nl2 hnl=>?_)|refine wN fun _ hnl=>?_);revert hnl;(repeat refine wS fun _ _=>?_);intro hnl)|refine wE ?_|(refine wK ?_ ?_<;>intro h)|(refine wB ?_ ?_<;>intro h<;>simp only[h]))|simp(maxSteps:=4000000) (disch:=first|decide|assumption|omega|(simp only[wL];omega)) only[go_sem,simprocAttr,Tryz.f108])
  all_goals (try (exfalso;omega))
  refine aF (α:=Nat) (fun i=>⟨146,[(3,.int .i64 (i:Int)),(1,.ptr nl1 0 0)],[]⟩) (fun _=>St.none.set nl1 (Lq nx cs ds)) (fun i=>i≤cs.length∧dH nx 0 cs=dH nx (cD (cs.map CA.id) i 0) (cs.drop i)) (fun i=>cs.length - i) (.of (.less ?_ (St.le_refl _)) ⟨0,rfl,rfl,Nat.zero_le _,rfl⟩) ?_
  ·simp(maxSteps:=4000000) (disch:=first|decide|assumption|omega|(simp only[wL];omega)) only[go_sem,simprocAttr,aC,aB]
   all_goals rfl
  ·rintro i ⟨hi,hq⟩
   by_cases hlt:i<cs.length
   ·obtain⟨x,hx⟩:=bI cs hlt
    rw[dT hx,dH] at hq
    have hat:=bB (f:=CA.c) hx
    have hnext:=fU (gY (f:=CA.id) hx) (z:=0)
    have hto:((i:Int) - 1).toNat=i - 1:=by omega
    have hl0:i=0→cD (cs.map CA.id) i 0=0:=fun h=>if_pos h
    have hl1:0<i→∃y:CA,(cs.map CA.c).getD (i - 1) []=y.c∧cD (cs.map CA.id) i 0=y.id:=fun h=>by
     obtain⟨y,hy⟩:=s8 hi h
     refine⟨y,bB hy,?_⟩
     unfold cD
     rw[if_neg (by omega),List.getD_eq_getElem?_getD,gY hy];rfl
    have hc:=qB x
    obtain⟨last,hlast⟩:∃k,cD (cs.map CA.id) i 0=k:=⟨_,rfl⟩
    obtain⟨cd,hcd⟩:∃b,dH nx 0 cs=b:=⟨_,rfl⟩
    rw[hlast] at hq hl0 hl1
    rw[hcd] at hq hres ⊢
    obtain⟨ok,hok⟩:∃b,cW x=b:=⟨_,rfl⟩
    have hpos:ok=true→1≤x.id:=fun h=>by
     rw[h,cW,Bool.and_eq_true,decide_eq_true_eq] at hok
     exact hok.1.1
    rw[hok] at hc hq
    obtain⟨C,c1⟩:∃C:bR,∀ms,C 186 ms=some ⟨[],fun v=>v=.bool ok,none⟩:=⟨tV 186 (.bool ok),fun _=>gJ⟩
    cases ok
    ·rw[Bool.false_and,Bool.false_and] at hq
     rw[hq,Bool.false_and] at hres
     subst hres
     rcases Nat.eq_zero_or_pos i with hi0|hi0
     ·repeat' (first|((with_reducible refine aK mixed ?chk C ?_);(case chk=>decide +kernel))|(with_reducible refine aI (c1 _) hc ?_)|(with_reducible first|(refine wT ?_;(first|((fail_if_success (have:=nl1));refine wN fun nl1 hnl=>?_)|((fail_if_success (have:=nl2));refine wN fun nl2 hnl=>?_)|refine wN fun _ hnl=>?_);revert hnl;(repeat refine wS fun _ _=>?_);intro hnl)|refine wE ?_|(refine wK ?_ ?_<;>intro h)|(refine wB ?_ ?_<;>intro h<;>simp only[h]))|simp(maxSteps:=4000000) (disch:=first|decide|assumption|omega|(simp only[wL];omega)) only[go_sem,simprocAttr,FXs,hat,hto])
      all_goals first|exact⟨_,St.le_refl _,rfl⟩|exact⟨_,St.le_refl _⟩|(exfalso;omega)
     ·obtain⟨y,hy,hly⟩:=hl1 hi0
      repeat' (first|((with_reducible refine aK mixed ?chk C ?_);(case chk=>decide +kernel))|(with_reducible refine aI (c1 _) hc ?_)|(with_reducible first|(refine wT ?_;(first|((fail_if_success (have:=nl1));refine wN fun nl1 hnl=>?_)|((fail_if_success (have:=nl2));refine wN fun nl2 hnl=>?_)|refine wN fun _ hnl=>?_);revert hnl;(repeat refine wS fun _ _=>?_);intro hnl)|refine wE ?_|(refine wK ?_ ?_<;>intro h)|(refine wB ?_ ?_<;>intro h<;>simp only[h]))|simp(maxSteps:=4000000) (disch:=first|decide|assumption|omega|(simp only[wL];omega)) only[go_sem,simprocAttr,FXs,hat,hto,hy])
      all_goals first|exact⟨_,St.le_refl _,rfl⟩|exact⟨_,St.le_refl _⟩|(exfalso;omega)
    ·rw[Bool.true_and] at hq
     have hp:=hpos rfl
     by_cases hr:last<x.id∧x.id<nx
     ·rw[decide_eq_true hr,Bool.true_and] at hq
      obtain⟨hr1,hr2⟩:=hr
      rcases Nat.eq_zero_or_pos i with hi0|hi0
      ·repeat' (first|((with_reducible refine aK mixed ?chk C ?_);(case chk=>decide +kernel))|(with_reducible refine aI (c1 _) hc ?_)|(with_reducible first|(refine wT ?_;(first|((fail_if_success (have:=nl1));refine wN fun nl1 hnl=>?_)|((fail_if_success (have:=nl2));refine wN fun nl2 hnl=>?_)|refine wN fun _ hnl=>?_);revert hnl;(repeat refine wS fun _ _=>?_);intro hnl)|refine wE ?_|(refine wK ?_ ?_<;>intro h)|(refine wB ?_ ?_<;>intro h<;>simp only[h]))|simp(maxSteps:=4000000) (disch:=first|decide|assumption|omega|(simp only[wL];omega)) only[go_sem,simprocAttr,FXs,hat,hto])
       all_goals (try (exfalso;omega))
       all_goals
        refine .of (.less ?_ (St.le_refl _)) ⟨i+1,rfl,rfl,⟨by omega,by rw[hnext];exact hq⟩,by omega⟩
        simp(maxSteps:=4000000) (disch:=first|decide|assumption|omega|(simp only[wL];omega)) only[go_sem,simprocAttr,aC,aB]
        all_goals rfl
      ·obtain⟨y,hy,hly⟩:=hl1 hi0
       repeat' (first|((with_reducible refine aK mixed ?chk C ?_);(case chk=>decide +kernel))|(with_reducible refine aI (c1 _) hc ?_)|(with_reducible first|(refine wT ?_;(first|((fail_if_success (have:=nl1));refine wN fun nl1 hnl=>?_)|((fail_if_success (have:=nl2));refine wN fun nl2 hnl=>?_)|refine wN fun _ hnl=>?_);revert hnl;(repeat refine wS fun _ _=>?_);intro hnl)|refine wE ?_|(refine wK ?_ ?_<;>intro h)|(refine wB ?_ ?_<;>intro h<;>simp only[h]))|simp(maxSteps:=4000000) (disch:=first|decide|assumption|omega|(simp only[wL];omega)) only[go_sem,simprocAttr,FXs,hat,hto,hy])
       all_goals (try (exfalso;omega))
       all_goals
        refine .of (.less ?_ (St.le_refl _)) ⟨i+1,rfl,rfl,⟨by omega,by rw[hnext];exact hq⟩,by omega⟩
        simp(maxSteps:=4000000) (disch:=first|decide|assumption|omega|(simp only[wL];omega)) only[go_sem,simprocAttr,aC,aB]
        all_goals rfl
     ·rw[decide_eq_false hr,Bool.false_and] at hq
      rw[hq,Bool.false_and] at hres
      subst hres
      rcases Nat.eq_zero_or_pos i with hi0|hi0
      ·have:=hl0 hi0
       repeat' (first|((with_reducible refine aK mixed ?chk C ?_);(case chk=>decide +kernel))|(with_reducible refine aI (c1 _) hc ?_)|(with_reducible first|(refine wT ?_;(first|((fail_if_success (have:=nl1));refine wN fun nl1 hnl=>?_)|((fail_if_success (have:=nl2));refine wN fun nl2 hnl=>?_)|refine wN fun _ hnl=>?_);revert hnl;(repeat refine wS fun _ _=>?_);intro hnl)|refine wE ?_|(refine wK ?_ ?_<;>intro h)|(refine wB ?_ ?_<;>intro h<;>simp only[h]))|simp(maxSteps:=4000000) (disch:=first|decide|assumption|omega|(simp only[wL];omega)) only[go_sem,simprocAttr,FXs,hat,hto])
       all_goals first|exact⟨_,St.le_refl _,rfl⟩|exact⟨_,St.le_refl _⟩|(exfalso;omega)
      ·obtain⟨y,hy,hly⟩:=hl1 hi0
       repeat' (first|((with_reducible refine aK mixed ?chk C ?_);(case chk=>decide +kernel))|(with_reducible refine aI (c1 _) hc ?_)|(with_reducible first|(refine wT ?_;(first|((fail_if_success (have:=nl1));refine wN fun nl1 hnl=>?_)|((fail_if_success (have:=nl2));refine wN fun nl2 hnl=>?_)|refine wN fun _ hnl=>?_);revert hnl;(repeat refine wS fun _ _=>?_);intro hnl)|refine wE ?_|(refine wK ?_ ?_<;>intro h)|(refine wB ?_ ?_<;>intro h<;>simp only[h]))|simp(maxSteps:=4000000) (disch:=first|decide|assumption|omega|(simp only[wL];omega)) only[go_sem,simprocAttr,FXs,hat,hto,hy])
       all_goals first|exact⟨_,St.le_refl _,rfl⟩|exact⟨_,St.le_refl _⟩|(exfalso;omega)
   ·have:i=cs.length:=by omega
    subst this
    rw[List.drop_length,dH] at hq
    rw[hq,Bool.true_and] at hres
    clear hq
    repeat' (first|(with_reducible first|(refine wT ?_;(first|((fail_if_success (have:=nl1));refine wN fun nl1 hnl=>?_)|((fail_if_success (have:=nl2));refine wN fun nl2 hnl=>?_)|refine wN fun _ hnl=>?_);revert hnl;(repeat refine wS fun _ _=>?_);intro hnl)|refine wE ?_|(refine wK ?_ ?_<;>intro h)|(refine wB ?_ ?_<;>intro h<;>simp only[h]))|simp(maxSteps:=4000000) (disch:=first|decide|assumption|omega|(simp only[wL];omega)) only[go_sem,simprocAttr])
    refine aF (α:=Nat) (fun j=>⟨146,[(4,.int .i64 (j:Int)),(1,.ptr nl1 0 0)],[]⟩) (fun _=>St.none.set nl1 (Lq nx cs ds)) (fun j=>j≤ds.length∧fR nx cs [] ds=fR nx cs (ds.take j) (ds.drop j)) (fun j=>ds.length - j) (.of (.less ?_ (St.le_refl _)) ⟨0,rfl,rfl,Nat.zero_le _,rfl⟩) ?_
    ·simp(maxSteps:=4000000) (disch:=first|decide|assumption|omega|(simp only[wL];omega)) only[go_sem,simprocAttr,aC,aB]
     all_goals rfl
    ·rintro j ⟨hj,hq⟩
     by_cases hlt:j<ds.length
     ·obtain⟨d,hd'⟩:=bI ds hlt
      have hat:=bB (f:=DE.c) hd'
      have epl:decide (d.id∉cs.map CA.id)=decide (fW (cs.map CA.id) d.id<0):=decide_eq_decide.mpr (by rw[vJ])
      rw[dT hd',fR,JU,epl] at hq
      clear epl
      have hpl:=yD nx cs ds hl d.id
      obtain⟨p,hp⟩:∃p,fW (cs.map CA.id) d.id=p:=⟨_,rfl⟩
      rw[hp] at hq hpl
      rw[hres] at hq ⊢
      unfold big at hq
      by_cases hr:1≤d.id∧d.id<nx∧1≤d.ver∧d.ver≤1099511627776∧0≤d.sq∧d.sq≤1099511627776
      ·rw[decide_eq_true hr,Bool.true_and] at hq
       obtain⟨e1,e2,e3,e4,e5,e6⟩:=hr
       by_cases hpn:p<0
       ·rw[decide_eq_true hpn,Bool.true_and] at hq
        repeat' (first|(refine aQ hpl ?_)|(with_reducible first|(refine wT ?_;(first|((fail_if_success (have:=nl1));refine wN fun nl1 hnl=>?_)|((fail_if_success (have:=nl2));refine wN fun nl2 hnl=>?_)|refine wN fun _ hnl=>?_);revert hnl;(repeat refine wS fun _ _=>?_);intro hnl)|refine wE ?_|(refine wK ?_ ?_<;>intro h)|(refine wB ?_ ?_<;>intro h<;>simp only[h]))|simp(maxSteps:=4000000) (disch:=first|decide|assumption|omega|(simp only[wL];omega)) only[go_sem,simprocAttr,hat])
        all_goals (try (exfalso;omega))
        refine aF (α:=Nat) (fun k=>⟨146,[(6,.int .i64 (k:Int)),(5,.ptr nl2 0 0),(4,.int .i64 (j:Int)),(1,.ptr nl1 0 0)],[]⟩) (fun _=>(St.none.set nl1 (Lq nx cs ds)).set nl2 (.row 197 3 [d.c])) (fun k=>k≤j∧∀e,e∈ds.take k→e.id≠d.id∧e.sq≤d.sq) (fun k=>j - k) (.of (.less ?_ (St.le_refl _)) ⟨0,rfl,rfl,Nat.zero_le _,by simp⟩) ?_
        ·simp(maxSteps:=4000000) (disch:=first|decide|assumption|omega|(simp only[wL];omega)) only[go_sem,simprocAttr,aC,aB]
         all_goals rfl
        ·rintro k ⟨hk,hall⟩
         by_cases hkj:k<j
         ·obtain⟨e,he⟩:=bI ds (by omega:k<ds.length)
          have hate:=bB (f:=DE.c) he
          by_cases hb:e.id≠d.id∧e.sq≤d.sq
          ·obtain⟨b1,b2⟩:=hb
           repeat' (first|(with_reducible first|(refine wT ?_;(first|((fail_if_success (have:=nl1));refine wN fun nl1 hnl=>?_)|((fail_if_success (have:=nl2));refine wN fun nl2 hnl=>?_)|refine wN fun _ hnl=>?_);revert hnl;(repeat refine wS fun _ _=>?_);intro hnl)|refine wE ?_|(refine wK ?_ ?_<;>intro h)|(refine wB ?_ ?_<;>intro h<;>simp only[h]))|simp(maxSteps:=4000000) (disch:=first|decide|assumption|omega|(simp only[wL];omega)) only[go_sem,simprocAttr,hate])
           all_goals (try (exfalso;omega))
           all_goals
            refine .of (.less ?_ (St.le_refl _)) ⟨k+1,rfl,rfl,⟨by omega,fun e' h'=>?_⟩,by omega⟩
            ·simp(maxSteps:=4000000) (disch:=first|decide|assumption|omega|(simp only[wL];omega)) only[go_sem,simprocAttr,aC,aB]
             all_goals rfl
            ·rw[aV he,List.mem_append,List.mem_singleton] at h'
             rcases h' with h'|rfl
             ·exact hall e' h'
             ·exact⟨b1,b2⟩
          ·have hm:e∈ds.take j:=List.mem_of_getElem? (i:=k) (by rw[List.getElem?_take,if_pos hkj];exact he)
           have hf:((ds.take j).all fun e=>decide (e.id≠d.id∧e.sq≤d.sq))=false:=List.all_eq_false.2 ⟨e,hm,by rw[decide_eq_false hb];simp⟩
           rw[hf,Bool.false_and] at hq
           subst hq
           repeat' (first|(with_reducible first|(refine wT ?_;(first|((fail_if_success (have:=nl1));refine wN fun nl1 hnl=>?_)|((fail_if_success (have:=nl2));refine wN fun nl2 hnl=>?_)|refine wN fun _ hnl=>?_);revert hnl;(repeat refine wS fun _ _=>?_);intro hnl)|refine wE ?_|(refine wK ?_ ?_<;>intro h)|(refine wB ?_ ?_<;>intro h<;>simp only[h]))|simp(maxSteps:=4000000) (disch:=first|decide|assumption|omega|(simp only[wL];omega)) only[go_sem,simprocAttr,hate])
           all_goals first|exact⟨_,St.le_refl _,rfl⟩|exact⟨_,St.le_refl _⟩|(exfalso;omega)
         ·have:k=j:=by omega
          subst this
          have ht:((ds.take k).all fun e=>decide (e.id≠d.id∧e.sq≤d.sq))=true:=List.all_eq_true.2 fun e h=>decide_eq_true (hall e h)
          rw[ht,Bool.true_and,←aV hd'] at hq
          repeat' (first|(with_reducible first|(refine wT ?_;(first|((fail_if_success (have:=nl1));refine wN fun nl1 hnl=>?_)|((fail_if_success (have:=nl2));refine wN fun nl2 hnl=>?_)|refine wN fun _ hnl=>?_);revert hnl;(repeat refine wS fun _ _=>?_);intro hnl)|refine wE ?_|(refine wK ?_ ?_<;>intro h)|(refine wB ?_ ?_<;>intro h<;>simp only[h]))|simp(maxSteps:=4000000) (disch:=first|decide|assumption|omega|(simp only[wL];omega)) only[go_sem,simprocAttr])
          refine .of (.less ?_ (σ1:=St.none.set nl1 (Lq nx cs ds)) (St.aD (St.none_le _) (by simp[St.set, *]))) ⟨k+1,rfl,rfl,⟨by omega,hq⟩,by omega⟩
          simp(maxSteps:=4000000) (disch:=first|decide|assumption|omega|(simp only[wL];omega)) only[go_sem,simprocAttr,aC,aB]
          all_goals rfl
       ·rw[decide_eq_false hpn,Bool.false_and,Bool.false_and] at hq
        subst hq
        repeat' (first|(refine aQ hpl ?_)|(with_reducible first|(refine wT ?_;(first|((fail_if_success (have:=nl1));refine wN fun nl1 hnl=>?_)|((fail_if_success (have:=nl2));refine wN fun nl2 hnl=>?_)|refine wN fun _ hnl=>?_);revert hnl;(repeat refine wS fun _ _=>?_);intro hnl)|refine wE ?_|(refine wK ?_ ?_<;>intro h)|(refine wB ?_ ?_<;>intro h<;>simp only[h]))|simp(maxSteps:=4000000) (disch:=first|decide|assumption|omega|(simp only[wL];omega)) only[go_sem,simprocAttr,hat])
        all_goals first|exact⟨_,St.le_refl _,rfl⟩|exact⟨_,St.le_refl _⟩|(exfalso;omega)
      ·rw[decide_eq_false hr,Bool.false_and,Bool.false_and,Bool.false_and] at hq
       subst hq
       repeat' (first|(refine aQ hpl ?_)|(with_reducible first|(refine wT ?_;(first|((fail_if_success (have:=nl1));refine wN fun nl1 hnl=>?_)|((fail_if_success (have:=nl2));refine wN fun nl2 hnl=>?_)|refine wN fun _ hnl=>?_);revert hnl;(repeat refine wS fun _ _=>?_);intro hnl)|refine wE ?_|(refine wK ?_ ?_<;>intro h)|(refine wB ?_ ?_<;>intro h<;>simp only[h]))|simp(maxSteps:=4000000) (disch:=first|decide|assumption|omega|(simp only[wL];omega)) only[go_sem,simprocAttr,hat])
       all_goals first|exact⟨_,St.le_refl _,rfl⟩|exact⟨_,St.le_refl _⟩|(exfalso;omega)
     ·have:j=ds.length:=by omega
      subst this
      rw[List.drop_length,fR] at hq
      rw[←hres,hq]
      repeat' (first|(with_reducible first|(refine wT ?_;(first|((fail_if_success (have:=nl1));refine wN fun nl1 hnl=>?_)|((fail_if_success (have:=nl2));refine wN fun nl2 hnl=>?_)|refine wN fun _ hnl=>?_);revert hnl;(repeat refine wS fun _ _=>?_);intro hnl)|refine wE ?_|(refine wK ?_ ?_<;>intro h)|(refine wB ?_ ?_<;>intro h<;>simp only[h]))|simp(maxSteps:=4000000) (disch:=first|decide|assumption|omega|(simp only[wL];omega)) only[go_sem,simprocAttr])
      all_goals first|exact⟨_,St.le_refl _,rfl⟩|exact⟨_,St.le_refl _⟩
end Go.Proofs.YtppdgejjmhdjhaaGreatDoor
