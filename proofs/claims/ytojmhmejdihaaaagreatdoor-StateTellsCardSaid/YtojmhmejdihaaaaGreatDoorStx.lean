/- Parts of the proof, joined; conditions: those that its theorems name. -/
import Derived.Test.YtojmhmejdihaaaaGreatDoorStt
set_option linter.unusedVariables false
set_option linter.unusedSimpArgs false
set_option maxHeartbeats 4000000
namespace Go.Proofs.YtojmhmejdihaaaaGreatDoor
section
set_option maxRecDepth 100000
set_option maxHeartbeats 8000000
abbrev LD(nx:Int)(cs:List CA)(ds:List DE):bE:=.row 90 3 [[.int .i64 nx,.lst 27 (cs.map CA.c) false,.lst 3 (ds.map DE.c) false]]
theorem yH(nx:Int)(cs:List CA)(ds:List DE)(hl:cs.length≤1000000)(id:Int):aA Tryz.prog 230 [.agg [.int .i64 nx,.lst 27 (cs.map CA.c) false,.lst 3 (ds.map DE.c) false],.int .i64 id] St.none (fun r _=>r=.int .i64 (gE (cs.map CA.id) id)):=by
 refine aA.bF (aA.body 22 [.tmp 4] Tryz.func230 rfl rfl rfl rfl ?_)
 repeat' (first|(with_reducible first|(refine wT ?_;(first|((fail_if_success (have:=nl1));refine wN fun nl1 hnl=>?_)|refine wN fun _ hnl=>?_);revert hnl;(repeat refine wS fun _ _=>?_);intro hnl)|refine wE ?_|(refine wK ?_ ?_<;>intro h)|(refine wB ?_ ?_<;>intro h<;>simp only[h]))|simp(maxSteps:=4000000) (disch:=first|decide|assumption|omega|(simp only[wL];omega)) only[go_sem,simprocAttr,Tryz.f230])
 refine aD (α:=Nat) (fun i=>⟨22,[(5,.int .i64 (i:Int)),(2,.ptr nl1 0 0),(1,.int .i64 id)],[]⟩) (fun _=>St.none.set nl1 (LD nx cs ds)) (fun i=>i≤cs.length∧id∉(cs.map CA.id).take i) (fun i=>cs.length - i) (.of (.less ?_ (St.le_refl _)) ⟨0,rfl,rfl,Nat.zero_le _,by simp⟩) ?_
 ·simp(maxSteps:=4000000) (disch:=first|decide|assumption|omega|(simp only[wL];omega)) only[go_sem,simprocAttr,aC,aB]
  all_goals rfl
 ·rintro i ⟨hi,hq⟩
  by_cases hlt:i<cs.length
  ·obtain⟨y,hy⟩:=bC cs hlt
   have hat:=aV (f:=CA.c) hy
   have hmem:=bR (fM (f:=CA.id) hy)
   have hnext:id≠y.id→id∉(cs.map CA.id).take (i+1):=fun h=>by
    rw[aO (fM (f:=CA.id) hy),List.mem_append,List.mem_singleton]
    exact not_or.2 ⟨hq,h⟩
   by_cases he:y.id=id
   ·have hi':=Ka (fM (f:=CA.id) hy) (by rw[he];exact hq)
    rw[he] at hi' hmem
    have hp:gE (cs.map CA.id) id=i:=by unfold gE;rw[if_pos hmem,hi']
    rw[hp]
    repeat' (first|(with_reducible first|(refine wT ?_;(first|((fail_if_success (have:=nl1));refine wN fun nl1 hnl=>?_)|refine wN fun _ hnl=>?_);revert hnl;(repeat refine wS fun _ _=>?_);intro hnl)|refine wE ?_|(refine wK ?_ ?_<;>intro h)|(refine wB ?_ ?_<;>intro h<;>simp only[h]))|simp(maxSteps:=4000000) (disch:=first|decide|assumption|omega|(simp only[wL];omega)) only[go_sem,simprocAttr,FXs,hat,he])
    all_goals first|exact⟨_,St.le_refl _,rfl⟩|exact⟨_,St.le_refl _⟩|(exfalso;omega)
   ·repeat' (first|(with_reducible first|(refine wT ?_;(first|((fail_if_success (have:=nl1));refine wN fun nl1 hnl=>?_)|refine wN fun _ hnl=>?_);revert hnl;(repeat refine wS fun _ _=>?_);intro hnl)|refine wE ?_|(refine wK ?_ ?_<;>intro h)|(refine wB ?_ ?_<;>intro h<;>simp only[h]))|simp(maxSteps:=4000000) (disch:=first|decide|assumption|omega|(simp only[wL];omega)) only[go_sem,simprocAttr,FXs,hat])
    all_goals (try (exfalso;omega))
    all_goals
     refine .of (.less ?_ (St.le_refl _)) ⟨i+1,rfl,rfl,⟨by omega,by rw[List.map_take];exact hnext (Ne.symm he)⟩,by omega⟩
     simp(maxSteps:=4000000) (disch:=first|decide|assumption|omega|(simp only[wL];omega)) only[go_sem,simprocAttr,aC,aB]
     all_goals rfl
  ·have:i=cs.length:=by omega
   subst this
   have hp:gE (cs.map CA.id) id = -1:=by unfold gE;rw[if_neg (by rw[List.take_of_length_le (by simp)] at hq;exact hq)]
   rw[hp]
   repeat' (first|(with_reducible first|(refine wT ?_;(first|((fail_if_success (have:=nl1));refine wN fun nl1 hnl=>?_)|refine wN fun _ hnl=>?_);revert hnl;(repeat refine wS fun _ _=>?_);intro hnl)|refine wE ?_|(refine wK ?_ ?_<;>intro h)|(refine wB ?_ ?_<;>intro h<;>simp only[h]))|simp(maxSteps:=4000000) (disch:=first|decide|assumption|omega|(simp only[wL];omega)) only[go_sem,simprocAttr])
   all_goals first|exact⟨_,St.le_refl _,rfl⟩|exact⟨_,St.le_refl _⟩
theorem yI(nx:Int)(cs:List CA)(ds:List DE)(hl:cs.length≤1000000)(hd:ds.length≤1000000):aA Tryz.prog 155 [.agg [.int .i64 nx,.lst 27 (cs.map CA.c) false,.lst 3 (ds.map DE.c) false]] St.none (fun r _=>r=.bool (oH nx cs ds)):=by
 refine aA.bF (aA.body 146 [.tmp 2] Tryz.func155 rfl rfl rfl rfl ?_)
 obtain⟨res,hres⟩:∃b,oH nx cs ds=b:=⟨_,rfl⟩
 rw[hres]
 unfold oH eD at hres
 by_cases h0:1≤nx∧nx≤1073741824∧cs.length≤48∧ds.length≤40
 rotate_left
 ·rw[decide_eq_false h0,Bool.false_and] at hres
  subst hres
  repeat' (first|(with_reducible first|(refine wT ?_;(first|((fail_if_success (have:=nl1));refine wN fun nl1 hnl=>?_)|((fail_if_success (have:=nl2));refine wN fun nl2 hnl=>?_)|refine wN fun _ hnl=>?_);revert hnl;(repeat refine wS fun _ _=>?_);intro hnl)|refine wE ?_|(refine wK ?_ ?_<;>intro h)|(refine wB ?_ ?_<;>intro h<;>simp only[h]))|simp(maxSteps:=4000000) (disch:=first|decide|assumption|omega|(simp only[wL];omega)) only[go_sem,simprocAttr,Tryz.f155])
  all_goals first|exact⟨_,St.le_refl _,rfl⟩|exact⟨_,St.le_refl _⟩|(exfalso;omega)
 ·rw[decide_eq_true h0,Bool.true_and] at hres
  obtain⟨g1,g2,g3,g4⟩:=h0
  repeat' (first|(with_reducible first|(refine wT ?_;(first|((fail_if_success (have:=nl1));refine wN fun nl1 hnl=>?_)|((fail_if_success (have:=nl2));refine wN fun nl2 hnl=>?_)|refine wN fun _ hnl=>?_);revert hnl;(repeat refine wS fun _ _=>?_);intro hnl)|refine wE ?_|(refine wK ?_ ?_<;>intro h)|(refine wB ?_ ?_<;>intro h<;>simp only[h]))|simp(maxSteps:=4000000) (disch:=first|decide|assumption|omega|(simp only[wL];omega)) only[go_sem,simprocAttr,Tryz.f155])
  all_goals (try (exfalso;omega))
  refine aD (α:=Nat) (fun i=>⟨146,[(3,.int .i64 (i:Int)),(1,.ptr nl1 0 0)],[]⟩) (fun _=>St.none.set nl1 (LD nx cs ds)) (fun i=>i≤cs.length∧dO nx 0 cs=dO nx (bY (cs.map CA.id) i 0) (cs.drop i)) (fun i=>cs.length - i) (.of (.less ?_ (St.le_refl _)) ⟨0,rfl,rfl,Nat.zero_le _,rfl⟩) ?_
  ·simp(maxSteps:=4000000) (disch:=first|decide|assumption|omega|(simp only[wL];omega)) only[go_sem,simprocAttr,aC,aB]
   all_goals rfl
  ·rintro i ⟨hi,hq⟩
   by_cases hlt:i<cs.length
   ·obtain⟨x,hx⟩:=bC cs hlt
    rw[cY hx,dO] at hq
    have hat:=aV (f:=CA.c) hx
    have hnext:=eM (fM (f:=CA.id) hx) (z:=0)
    have hto:((i:Int) - 1).toNat=i - 1:=by omega
    have hl0:i=0→bY (cs.map CA.id) i 0=0:=fun h=>if_pos h
    have hl1:0<i→∃y:CA,(cs.map CA.c).getD (i - 1) []=y.c∧bY (cs.map CA.id) i 0=y.id:=fun h=>by
     obtain⟨y,hy⟩:=qP hi h
     refine⟨y,aV hy,?_⟩
     unfold bY
     rw[if_neg (by omega),List.getD_eq_getElem?_getD,fM hy];rfl
    have hc:=qR x
    obtain⟨last,hlast⟩:∃k,bY (cs.map CA.id) i 0=k:=⟨_,rfl⟩
    obtain⟨cd,hcd⟩:∃b,dO nx 0 cs=b:=⟨_,rfl⟩
    rw[hlast] at hq hl0 hl1
    rw[hcd] at hq hres ⊢
    obtain⟨ok,hok⟩:∃b,cX x=b:=⟨_,rfl⟩
    have hpos:ok=true→1≤x.id:=fun h=>by
     rw[h,cX,Bool.and_eq_true,decide_eq_true_eq] at hok
     exact hok.1.1
    rw[hok] at hc hq
    obtain⟨C,c1⟩:∃C:bP,∀ms,C 244 ms=some ⟨[],fun v=>v=.bool ok,none⟩:=⟨lO 244 (.bool ok),fun _=>cM⟩
    cases ok
    ·rw[Bool.false_and,Bool.false_and] at hq
     rw[hq,Bool.false_and] at hres
     subst hres
     rcases Nat.eq_zero_or_pos i with hi0|hi0
     ·repeat' (first|((with_reducible refine aJ mixed ?chk C ?_);(case chk=>decide +kernel))|(with_reducible refine aF (c1 _) hc ?_)|(with_reducible first|(refine wT ?_;(first|((fail_if_success (have:=nl1));refine wN fun nl1 hnl=>?_)|((fail_if_success (have:=nl2));refine wN fun nl2 hnl=>?_)|refine wN fun _ hnl=>?_);revert hnl;(repeat refine wS fun _ _=>?_);intro hnl)|refine wE ?_|(refine wK ?_ ?_<;>intro h)|(refine wB ?_ ?_<;>intro h<;>simp only[h]))|simp(maxSteps:=4000000) (disch:=first|decide|assumption|omega|(simp only[wL];omega)) only[go_sem,simprocAttr,FXs,hat,hto])
      all_goals first|exact⟨_,St.le_refl _,rfl⟩|exact⟨_,St.le_refl _⟩|(exfalso;omega)
     ·obtain⟨y,hy,hly⟩:=hl1 hi0
      repeat' (first|((with_reducible refine aJ mixed ?chk C ?_);(case chk=>decide +kernel))|(with_reducible refine aF (c1 _) hc ?_)|(with_reducible first|(refine wT ?_;(first|((fail_if_success (have:=nl1));refine wN fun nl1 hnl=>?_)|((fail_if_success (have:=nl2));refine wN fun nl2 hnl=>?_)|refine wN fun _ hnl=>?_);revert hnl;(repeat refine wS fun _ _=>?_);intro hnl)|refine wE ?_|(refine wK ?_ ?_<;>intro h)|(refine wB ?_ ?_<;>intro h<;>simp only[h]))|simp(maxSteps:=4000000) (disch:=first|decide|assumption|omega|(simp only[wL];omega)) only[go_sem,simprocAttr,FXs,hat,hto,hy])
      all_goals first|exact⟨_,St.le_refl _,rfl⟩|exact⟨_,St.le_refl _⟩|(exfalso;omega)
    ·rw[Bool.true_and] at hq
     have hp:=hpos rfl
     by_cases hr:last<x.id∧x.id<nx
     ·rw[decide_eq_true hr,Bool.true_and] at hq
      obtain⟨hr1,hr2⟩:=hr
      rcases Nat.eq_zero_or_pos i with hi0|hi0
      ·repeat' (first|((with_reducible refine aJ mixed ?chk C ?_);(case chk=>decide +kernel))|(with_reducible refine aF (c1 _) hc ?_)|(with_reducible first|(refine wT ?_;(first|((fail_if_success (have:=nl1));refine wN fun nl1 hnl=>?_)|((fail_if_success (have:=nl2));refine wN fun nl2 hnl=>?_)|refine wN fun _ hnl=>?_);revert hnl;(repeat refine wS fun _ _=>?_);intro hnl)|refine wE ?_|(refine wK ?_ ?_<;>intro h)|(refine wB ?_ ?_<;>intro h<;>simp only[h]))|simp(maxSteps:=4000000) (disch:=first|decide|assumption|omega|(simp only[wL];omega)) only[go_sem,simprocAttr,FXs,hat,hto])
       all_goals (try (exfalso;omega))
       all_goals
        refine .of (.less ?_ (St.le_refl _)) ⟨i+1,rfl,rfl,⟨by omega,by rw[hnext];exact hq⟩,by omega⟩
        simp(maxSteps:=4000000) (disch:=first|decide|assumption|omega|(simp only[wL];omega)) only[go_sem,simprocAttr,aC,aB]
        all_goals rfl
      ·obtain⟨y,hy,hly⟩:=hl1 hi0
       repeat' (first|((with_reducible refine aJ mixed ?chk C ?_);(case chk=>decide +kernel))|(with_reducible refine aF (c1 _) hc ?_)|(with_reducible first|(refine wT ?_;(first|((fail_if_success (have:=nl1));refine wN fun nl1 hnl=>?_)|((fail_if_success (have:=nl2));refine wN fun nl2 hnl=>?_)|refine wN fun _ hnl=>?_);revert hnl;(repeat refine wS fun _ _=>?_);intro hnl)|refine wE ?_|(refine wK ?_ ?_<;>intro h)|(refine wB ?_ ?_<;>intro h<;>simp only[h]))|simp(maxSteps:=4000000) (disch:=first|decide|assumption|omega|(simp only[wL];omega)) only[go_sem,simprocAttr,FXs,hat,hto,hy])
       all_goals (try (exfalso;omega))
       all_goals
        refine .of (.less ?_ (St.le_refl _)) ⟨i+1,rfl,rfl,⟨by omega,by rw[hnext];exact hq⟩,by omega⟩
        simp(maxSteps:=4000000) (disch:=first|decide|assumption|omega|(simp only[wL];omega)) only[go_sem,simprocAttr,aC,aB]
        all_goals rfl
     ·rw[decide_eq_false hr,Bool.false_and] at hq
      rw[hq,Bool.false_and] at hres
      subst hres
      rcases Nat.eq_zero_or_pos i with hi0|hi0
      ·have:=hl0 hi0
       repeat' (first|((with_reducible refine aJ mixed ?chk C ?_);(case chk=>decide +kernel))|(with_reducible refine aF (c1 _) hc ?_)|(with_reducible first|(refine wT ?_;(first|((fail_if_success (have:=nl1));refine wN fun nl1 hnl=>?_)|((fail_if_success (have:=nl2));refine wN fun nl2 hnl=>?_)|refine wN fun _ hnl=>?_);revert hnl;(repeat refine wS fun _ _=>?_);intro hnl)|refine wE ?_|(refine wK ?_ ?_<;>intro h)|(refine wB ?_ ?_<;>intro h<;>simp only[h]))|simp(maxSteps:=4000000) (disch:=first|decide|assumption|omega|(simp only[wL];omega)) only[go_sem,simprocAttr,FXs,hat,hto])
       all_goals first|exact⟨_,St.le_refl _,rfl⟩|exact⟨_,St.le_refl _⟩|(exfalso;omega)
      ·obtain⟨y,hy,hly⟩:=hl1 hi0
       repeat' (first|((with_reducible refine aJ mixed ?chk C ?_);(case chk=>decide +kernel))|(with_reducible refine aF (c1 _) hc ?_)|(with_reducible first|(refine wT ?_;(first|((fail_if_success (have:=nl1));refine wN fun nl1 hnl=>?_)|((fail_if_success (have:=nl2));refine wN fun nl2 hnl=>?_)|refine wN fun _ hnl=>?_);revert hnl;(repeat refine wS fun _ _=>?_);intro hnl)|refine wE ?_|(refine wK ?_ ?_<;>intro h)|(refine wB ?_ ?_<;>intro h<;>simp only[h]))|simp(maxSteps:=4000000) (disch:=first|decide|assumption|omega|(simp only[wL];omega)) only[go_sem,simprocAttr,FXs,hat,hto,hy])
       all_goals first|exact⟨_,St.le_refl _,rfl⟩|exact⟨_,St.le_refl _⟩|(exfalso;omega)
   ·have:i=cs.length:=by omega
    subst this
    rw[List.drop_length,dO] at hq
    rw[hq,Bool.true_and] at hres
    clear hq
    repeat' (first|(with_reducible first|(refine wT ?_;(first|((fail_if_success (have:=nl1));refine wN fun nl1 hnl=>?_)|((fail_if_success (have:=nl2));refine wN fun nl2 hnl=>?_)|refine wN fun _ hnl=>?_);revert hnl;(repeat refine wS fun _ _=>?_);intro hnl)|refine wE ?_|(refine wK ?_ ?_<;>intro h)|(refine wB ?_ ?_<;>intro h<;>simp only[h]))|simp(maxSteps:=4000000) (disch:=first|decide|assumption|omega|(simp only[wL];omega)) only[go_sem,simprocAttr])
    refine aD (α:=Nat) (fun j=>⟨146,[(4,.int .i64 (j:Int)),(1,.ptr nl1 0 0)],[]⟩) (fun _=>St.none.set nl1 (LD nx cs ds)) (fun j=>j≤ds.length∧fX nx cs [] ds=fX nx cs (ds.take j) (ds.drop j)) (fun j=>ds.length - j) (.of (.less ?_ (St.le_refl _)) ⟨0,rfl,rfl,Nat.zero_le _,rfl⟩) ?_
    ·simp(maxSteps:=4000000) (disch:=first|decide|assumption|omega|(simp only[wL];omega)) only[go_sem,simprocAttr,aC,aB]
     all_goals rfl
    ·rintro j ⟨hj,hq⟩
     by_cases hlt:j<ds.length
     ·obtain⟨d,hd'⟩:=bC ds hlt
      have hat:=aV (f:=DE.c) hd'
      have epl:decide (d.id∉cs.map CA.id)=decide (gE (cs.map CA.id) d.id<0):=decide_eq_decide.mpr (by rw[vQ])
      rw[cY hd',fX,JY,epl] at hq
      clear epl
      have hpl:=yH nx cs ds hl d.id
      obtain⟨p,hp⟩:∃p,gE (cs.map CA.id) d.id=p:=⟨_,rfl⟩
      rw[hp] at hq hpl
      rw[hres] at hq ⊢
      unfold big at hq
      by_cases hr:1≤d.id∧d.id<nx∧1≤d.ver∧d.ver≤1099511627776∧0≤d.sq∧d.sq≤1099511627776
      ·rw[decide_eq_true hr,Bool.true_and] at hq
       obtain⟨e1,e2,e3,e4,e5,e6⟩:=hr
       by_cases hpn:p<0
       ·rw[decide_eq_true hpn,Bool.true_and] at hq
        repeat' (first|(refine bB hpl ?_)|(with_reducible first|(refine wT ?_;(first|((fail_if_success (have:=nl1));refine wN fun nl1 hnl=>?_)|((fail_if_success (have:=nl2));refine wN fun nl2 hnl=>?_)|refine wN fun _ hnl=>?_);revert hnl;(repeat refine wS fun _ _=>?_);intro hnl)|refine wE ?_|(refine wK ?_ ?_<;>intro h)|(refine wB ?_ ?_<;>intro h<;>simp only[h]))|simp(maxSteps:=4000000) (disch:=first|decide|assumption|omega|(simp only[wL];omega)) only[go_sem,simprocAttr,hat])
        all_goals (try (exfalso;omega))
        refine aD (α:=Nat) (fun k=>⟨146,[(6,.int .i64 (k:Int)),(5,.ptr nl2 0 0),(4,.int .i64 (j:Int)),(1,.ptr nl1 0 0)],[]⟩) (fun _=>(St.none.set nl1 (LD nx cs ds)).set nl2 (.row 166 3 [d.c])) (fun k=>k≤j∧∀e,e∈ds.take k→e.id≠d.id∧e.sq≤d.sq) (fun k=>j - k) (.of (.less ?_ (St.le_refl _)) ⟨0,rfl,rfl,Nat.zero_le _,by simp⟩) ?_
        ·simp(maxSteps:=4000000) (disch:=first|decide|assumption|omega|(simp only[wL];omega)) only[go_sem,simprocAttr,aC,aB]
         all_goals rfl
        ·rintro k ⟨hk,hall⟩
         by_cases hkj:k<j
         ·obtain⟨e,he⟩:=bC ds (by omega:k<ds.length)
          have hate:=aV (f:=DE.c) he
          by_cases hb:e.id≠d.id∧e.sq≤d.sq
          ·obtain⟨b1,b2⟩:=hb
           repeat' (first|(with_reducible first|(refine wT ?_;(first|((fail_if_success (have:=nl1));refine wN fun nl1 hnl=>?_)|((fail_if_success (have:=nl2));refine wN fun nl2 hnl=>?_)|refine wN fun _ hnl=>?_);revert hnl;(repeat refine wS fun _ _=>?_);intro hnl)|refine wE ?_|(refine wK ?_ ?_<;>intro h)|(refine wB ?_ ?_<;>intro h<;>simp only[h]))|simp(maxSteps:=4000000) (disch:=first|decide|assumption|omega|(simp only[wL];omega)) only[go_sem,simprocAttr,hate])
           all_goals (try (exfalso;omega))
           all_goals
            refine .of (.less ?_ (St.le_refl _)) ⟨k+1,rfl,rfl,⟨by omega,fun e' h'=>?_⟩,by omega⟩
            ·simp(maxSteps:=4000000) (disch:=first|decide|assumption|omega|(simp only[wL];omega)) only[go_sem,simprocAttr,aC,aB]
             all_goals rfl
            ·rw[aO he,List.mem_append,List.mem_singleton] at h'
             rcases h' with h'|rfl
             ·exact hall e' h'
             ·exact⟨b1,b2⟩
          ·have hm:e∈ds.take j:=List.mem_of_getElem? (i:=k) (by rw[List.getElem?_take,if_pos hkj];exact he)
           have hf:((ds.take j).all fun e=>decide (e.id≠d.id∧e.sq≤d.sq))=false:=List.all_eq_false.2 ⟨e,hm,by rw[decide_eq_false hb];simp⟩
           rw[hf,Bool.false_and] at hq
           subst hq
           repeat' (first|(with_reducible first|(refine wT ?_;(first|((fail_if_success (have:=nl1));refine wN fun nl1 hnl=>?_)|((fail_if_success (have:=nl2));refine wN fun nl2 hnl=>?_)|refine wN fun _ hnl=>?_);revert hnl;(repeat refine wS fun _ _=>?_);intro hnl)|refine wE ?_|(refine wK ?_ ?_<;>intro h)|(refine wB ?_ ?_<;>intro h<;>simp only[h]))|simp(maxSteps:=4000000) (disch:=first|decide|assumption|omega|(simp only[wL];omega)) only[go_sem,simprocAttr,hate])
           all_goals first|exact⟨_,St.le_refl _,rfl⟩|exact⟨_,St.le_refl _⟩|(exfalso;omega)
         ·have:k=j:=by omega
          subst this
          have ht:((ds.take k).all fun e=>decide (e.id≠d.id∧e.sq≤d.sq))=true:=List.all_eq_true.2 fun e h=>decide_eq_true (hall e h)
          rw[ht,Bool.true_and,←aO hd'] at hq
          repeat' (first|(with_reducible first|(refine wT ?_;(first|((fail_if_success (have:=nl1));refine wN fun nl1 hnl=>?_)|((fail_if_success (have:=nl2));refine wN fun nl2 hnl=>?_)|refine wN fun _ hnl=>?_);revert hnl;(repeat refine wS fun _ _=>?_);intro hnl)|refine wE ?_|(refine wK ?_ ?_<;>intro h)|(refine wB ?_ ?_<;>intro h<;>simp only[h]))|simp(maxSteps:=4000000) (disch:=first|decide|assumption|omega|(simp only[wL];omega)) only[go_sem,simprocAttr])
          refine .of (.less ?_ (σ1:=St.none.set nl1 (LD nx cs ds)) (St.aL (St.none_le _) (by simp[St.set, *]))) ⟨k+1,rfl,rfl,⟨by omega,hq⟩,by omega⟩
          simp(maxSteps:=4000000) (disch:=first|decide|assumption|omega|(simp only[wL];omega)) only[go_sem,simprocAttr,aC,aB]
          all_goals rfl
       ·rw[decide_eq_false hpn,Bool.false_and,Bool.false_and] at hq
        subst hq
        repeat' (first|(refine bB hpl ?_)|(with_reducible first|(refine wT ?_;(first|((fail_if_success (have:=nl1));refine wN fun nl1 hnl=>?_)|((fail_if_success (have:=nl2));refine wN fun nl2 hnl=>?_)|refine wN fun _ hnl=>?_);revert hnl;(repeat refine wS fun _ _=>?_);intro hnl)|refine wE ?_|(refine wK ?_ ?_<;>intro h)|(refine wB ?_ ?_<;>intro h<;>simp only[h]))|simp(maxSteps:=4000000) (disch:=first|decide|assumption|omega|(simp only[wL];omega)) only[go_sem,simprocAttr,hat])
        all_goals first|exact⟨_,St.le_refl _,rfl⟩|exact⟨_,St.le_refl _⟩|(exfalso;omega)
      ·rw[decide_eq_false hr,Bool.false_and,Bool.false_and,Bool.false_and] at hq
       subst hq
       repeat' (first|(refine bB hpl ?_)|(with_reducible first|(refine wT ?_;(first|((fail_if_success (have:=nl1));refine wN fun nl1 hnl=>?_)|((fail_if_success (have:=nl2));refine wN fun nl2 hnl=>?_)|refine wN fun _ hnl=>?_);revert hnl;(repeat refine wS fun _ _=>?_);intro hnl)|refine wE ?_|(refine wK ?_ ?_<;>intro h)|(refine wB ?_ ?_<;>intro h<;>simp only[h]))|simp(maxSteps:=4000000) (disch:=first|decide|assumption|omega|(simp only[wL];omega)) only[go_sem,simprocAttr,hat])
       all_goals first|exact⟨_,St.le_refl _,rfl⟩|exact⟨_,St.le_refl _⟩|(exfalso;omega)
     ·have:j=ds.length:=by omega
      subst this
      rw[List.drop_length,fX] at hq
      rw[←hres,hq]
      repeat' (first|(with_reducible first|(refine wT ?_;(first|((fail_if_success (have:=nl1));refine wN fun nl1 hnl=>?_)|((fail_if_success (have:=nl2));refine wN fun nl2 hnl=>?_)|refine wN fun _ hnl=>?_);revert hnl;(repeat refine wS fun _ _=>?_);intro hnl)|refine wE ?_|(refine wK ?_ ?_<;>intro h)|(refine wB ?_ ?_<;>intro h<;>simp only[h]))|simp(maxSteps:=4000000) (disch:=first|decide|assumption|omega|(simp only[wL];omega)) only[go_sem,simprocAttr])
      all_goals first|exact⟨_,St.le_refl _,rfl⟩|exact⟨_,St.le_refl _⟩
end

section
set_option maxRecDepth 100000
set_option maxHeartbeats 8000000
theorem bV.MM{n:Nat}{l l1:List (Nat × MV)}{d:List (FuncId × List MV)}{τ:St}{q:Nat}{o:bE}(hq:τ q=none)(h:∀p,p∈l1→View (St.none.set q o) (cH l p.1) p.2):bV ⟨n,l,d⟩ (τ.set q o) ⟨n,l1,d⟩ τ :=
 bV.freeze (St.none.set q o) (St.aL (St.none_le _) (aM _ _ _)) (mQ hq) (fun k o' hk=>(aH _ _ _ _ (fun e=>by subst e;rw[hq] at hk;cases hk)).trans rfl) h
theorem Fu(b:BK):aA Tryz.prog 154 [.agg b.c] St.none (fun r _=>r=.agg [.int .i64 b.sq,.int .i64 b.nx,.lst 27 (b.cards.map CA.c) false,.lst 3 (b.dead.map DE.c) false,.lst 2 (b.gr.map GR.c) false]):=by
 refine aA.bF (aA.body 15 [.cell 2 92] Tryz.func154 rfl rfl rfl rfl ?_)
 repeat' (first|(with_reducible first|(refine wN fun _ hnl=>?_;revert hnl;(repeat refine wS fun _ _=>?_);intro hnl)|refine wE ?_|(refine wK ?_ ?_<;>intro h)|(refine wB ?_ ?_<;>intro h<;>simp only[h]))|simp(maxSteps:=4000000) (disch:=first|decide|assumption|omega|(simp only[wL];omega)) only[go_sem,simprocAttr,Tryz.f154])
 all_goals first|exact⟨_,St.le_refl _,rfl⟩|exact⟨_,St.le_refl _⟩
theorem yF(b:BK)(h1:b.cards.length≤1000000)(h2:b.dead.length≤1000000)(h3:b.gr.length≤1000000)(h4:∀g,g∈b.gr→g.mem.length≤1000000):aA Tryz.prog 76 [.agg b.c] St.none (fun r _=>r=.bool (iQ b)):=by
 refine aA.bF (aA.body 80 [.tmp 2] Tryz.func76 rfl rfl rfl rfl ?_)
 obtain⟨res,hres⟩:∃x,iQ b=x:=⟨_,rfl⟩
 rw[hres]
 unfold iQ big at hres
 have c0:=Fu b
 have c1:=yI b.nx b.cards b.dead h1 h2
 have c2:=I8 b.gr false h3 h4
 obtain⟨so,hso⟩:∃x,oH b.nx b.cards b.dead=x:=⟨_,rfl⟩
 obtain⟨go,hgo⟩:∃x,dQ (-1) b.gr=x:=⟨_,rfl⟩
 rw[hso] at c1 hres
 rw[hgo] at c2 hres
 by_cases h0:so=true∧(0≤b.sq∧b.sq≤1099511627776)∧go=true
 rotate_left
 ·have e:res=false:=by
   rw[←hres]
   cases so<;>cases go<;>simp at h0 ⊢
   intro x y
   exact absurd y (by have:=h0 x;omega)
  subst e
  clear hres
  cases so<;>cases go
  all_goals
   repeat' (first|(with_reducible first|refine up c0 ?_|refine up c1 ?_|refine up c2 ?_)|(with_reducible first|(refine wT ?_;(first|((fail_if_success (have:=nl1));refine wN fun nl1 hnl=>?_)|((fail_if_success (have:=nl2));refine wN fun nl2 hnl=>?_)|((fail_if_success (have:=nl3));refine wN fun nl3 hnl=>?_)|((fail_if_success (have:=nl4));refine wN fun nl4 hnl=>?_)|((fail_if_success (have:=nl5));refine wN fun nl5 hnl=>?_)|refine wN fun _ hnl=>?_);revert hnl;(repeat refine wS fun _ _=>?_);intro hnl)|refine wE ?_|(refine wK ?_ ?_<;>intro h)|(refine wB ?_ ?_<;>intro h<;>simp only[h]))|simp(maxSteps:=4000000) (disch:=first|decide|assumption|omega|(simp only[wL];omega)) only[go_sem,simprocAttr,Tryz.f76])
   all_goals first|exact⟨_,St.le_refl _,rfl⟩|exact⟨_,St.le_refl _⟩|(exfalso;simp at h0;omega)
 ·obtain⟨rfl,⟨g1,g2⟩,rfl⟩:=h0
  rw[decide_eq_true ⟨g1,g2⟩,Bool.true_and,Bool.true_and,Bool.true_and] at hres
  repeat' (first|(with_reducible first|refine up c0 ?_|refine up c1 ?_|refine up c2 ?_)|(with_reducible first|(refine wT ?_;(first|((fail_if_success (have:=nl1));refine wN fun nl1 hnl=>?_)|((fail_if_success (have:=nl2));refine wN fun nl2 hnl=>?_)|((fail_if_success (have:=nl3));refine wN fun nl3 hnl=>?_)|((fail_if_success (have:=nl4));refine wN fun nl4 hnl=>?_)|((fail_if_success (have:=nl5));refine wN fun nl5 hnl=>?_)|refine wN fun _ hnl=>?_);revert hnl;(repeat refine wS fun _ _=>?_);intro hnl)|refine wE ?_|(refine wK ?_ ?_<;>intro h)|(refine wB ?_ ?_<;>intro h<;>simp only[h]))|simp(maxSteps:=4000000) (disch:=first|decide|assumption|omega|(simp only[wL];omega)) only[go_sem,simprocAttr,Tryz.f76])
  all_goals (try (exfalso;omega))
  refine aD (α:=Nat) (fun i=>⟨80,[(4,.int .i64 (i:Int)),(1,.ptr nl1 0 0)],[]⟩) (fun _=>St.none.set nl1 (.row 26 5 [b.c])) (fun i=>i≤b.dead.length∧∀d,d∈b.dead.take i→d.sq≤b.sq) (fun i=>b.dead.length - i) (.of (.less ?_ (St.aL (St.none_le _) (by simp[St.set, *]))) ⟨0,rfl,rfl,Nat.zero_le _,by simp⟩) ?_
  ·simp(maxSteps:=4000000) (disch:=first|decide|assumption|omega|(simp only[wL];omega)) only[go_sem,simprocAttr,aC,aB]
   all_goals rfl
  ·rintro i ⟨hi,hall⟩
   by_cases hlt:i<b.dead.length
   ·obtain⟨d,hd⟩:=bC b.dead hlt
    have hat:=aV (f:=DE.c) hd
    by_cases hb:d.sq≤b.sq
    ·repeat' (first|(with_reducible first|(refine wT ?_;(first|((fail_if_success (have:=nl1));refine wN fun nl1 hnl=>?_)|((fail_if_success (have:=nl2));refine wN fun nl2 hnl=>?_)|((fail_if_success (have:=nl3));refine wN fun nl3 hnl=>?_)|((fail_if_success (have:=nl4));refine wN fun nl4 hnl=>?_)|((fail_if_success (have:=nl5));refine wN fun nl5 hnl=>?_)|refine wN fun _ hnl=>?_);revert hnl;(repeat refine wS fun _ _=>?_);intro hnl)|refine wE ?_|(refine wK ?_ ?_<;>intro h)|(refine wB ?_ ?_<;>intro h<;>simp only[h]))|simp(maxSteps:=4000000) (disch:=first|decide|assumption|omega|(simp only[wL];omega)) only[go_sem,simprocAttr,hat])
     all_goals (try (exfalso;omega))
     all_goals
      refine .of (.less ?_ (St.le_refl _)) ⟨i+1,rfl,rfl,⟨by omega,fun e' h'=>?_⟩,by omega⟩
      ·simp(maxSteps:=4000000) (disch:=first|decide|assumption|omega|(simp only[wL];omega)) only[go_sem,simprocAttr,aC,aB]
       all_goals rfl
      ·rw[aO hd,List.mem_append,List.mem_singleton] at h'
       rcases h' with h'|rfl
       ·exact hall e' h'
       ·exact hb
    ·have hf:(b.dead.all fun d=>decide (d.sq≤b.sq))=false:=List.all_eq_false.2 ⟨d,bR hd,by rw[decide_eq_false hb];simp⟩
     rw[hf,Bool.false_and] at hres
     subst hres
     repeat' (first|(with_reducible first|(refine wT ?_;(first|((fail_if_success (have:=nl1));refine wN fun nl1 hnl=>?_)|((fail_if_success (have:=nl2));refine wN fun nl2 hnl=>?_)|((fail_if_success (have:=nl3));refine wN fun nl3 hnl=>?_)|((fail_if_success (have:=nl4));refine wN fun nl4 hnl=>?_)|((fail_if_success (have:=nl5));refine wN fun nl5 hnl=>?_)|refine wN fun _ hnl=>?_);revert hnl;(repeat refine wS fun _ _=>?_);intro hnl)|refine wE ?_|(refine wK ?_ ?_<;>intro h)|(refine wB ?_ ?_<;>intro h<;>simp only[h]))|simp(maxSteps:=4000000) (disch:=first|decide|assumption|omega|(simp only[wL];omega)) only[go_sem,simprocAttr,hat])
     all_goals first|exact⟨_,St.le_refl _,rfl⟩|exact⟨_,St.le_refl _⟩|(exfalso;omega)
   ·have:i=b.dead.length:=by omega
    subst this
    rw[List.take_length] at hall
    have ht:(b.dead.all fun d=>decide (d.sq≤b.sq))=true:=List.all_eq_true.2 fun e h=>decide_eq_true (hall e h)
    rw[ht,Bool.true_and] at hres
    clear hall ht
    repeat' (first|(with_reducible first|(refine wT ?_;(first|((fail_if_success (have:=nl1));refine wN fun nl1 hnl=>?_)|((fail_if_success (have:=nl2));refine wN fun nl2 hnl=>?_)|((fail_if_success (have:=nl3));refine wN fun nl3 hnl=>?_)|((fail_if_success (have:=nl4));refine wN fun nl4 hnl=>?_)|((fail_if_success (have:=nl5));refine wN fun nl5 hnl=>?_)|refine wN fun _ hnl=>?_);revert hnl;(repeat refine wS fun _ _=>?_);intro hnl)|refine wE ?_|(refine wK ?_ ?_<;>intro h)|(refine wB ?_ ?_<;>intro h<;>simp only[h]))|simp(maxSteps:=4000000) (disch:=first|decide|assumption|omega|(simp only[wL];omega)) only[go_sem,simprocAttr])
    have hn1:nl3≠nl1:=by assumption
    refine aD (α:=Nat × Nat × List (List MV)) (fun s=>⟨80,[(6,.int .i64 (s.1:Int)),(5,.vec 1 s.2.1 0 s.1),(1,.ptr nl1 0 0)],[]⟩)
     (fun s=>(St.none.set nl1 (.row 26 5 [b.c])).set s.2.1 (.row 3 1 ((b.cards.take s.1).map (fun c=>aR c.id)++s.2.2))) (fun s=>s.1≤b.cards.length∧s.2.1≠nl1) (fun s=>b.cards.length - s.1) (.of (.less ?_ (St.le_refl _)) ⟨(0,nl3,[]),rfl,by simp,Nat.zero_le _,hn1⟩) ?_
    ·simp(maxSteps:=4000000) (disch:=first|decide|assumption|omega|(simp only[wL];omega)) only[go_sem,simprocAttr,aC,aB]
     all_goals first|rfl|(simp[aB];done)
    ·rintro⟨i,q,ex⟩ ⟨hi,hq⟩
     simp only at hi hq ⊢
     have hq':=Ne.symm hq
     by_cases hlt:i<b.cards.length
     ·obtain⟨x,hx⟩:=bC b.cards hlt
      have hat:=aV (f:=CA.c) hx
      have hsn:=aO hx
      have htl:(b.cards.take i).length=i:=by rw[List.length_take];omega
      obtain⟨L,hL⟩:∃L,b.cards.take i=L:=⟨_,rfl⟩
      rw[hL] at hsn htl ⊢
      have htk:(L.map (fun c=>aR c.id)++ex).take i=L.map (fun c=>aR c.id):=by rw[←htl];exact j8
      have hdr:(L.map (fun c=>aR c.id)++ex).drop (i+1)=ex.drop 1:=by rw[←htl];exact kS
      have hLl:(L.map (fun c:CA=>aR c.id)).length=i:=by rw[List.length_map,htl]
      repeat' (first|(with_reducible first|(refine wT ?_;(first|((fail_if_success (have:=nl1));refine wN fun nl1 hnl=>?_)|((fail_if_success (have:=nl2));refine wN fun nl2 hnl=>?_)|((fail_if_success (have:=nl3));refine wN fun nl3 hnl=>?_)|((fail_if_success (have:=nl4));refine wN fun nl4 hnl=>?_)|((fail_if_success (have:=nl5));refine wN fun nl5 hnl=>?_)|refine wN fun _ hnl=>?_);revert hnl;(repeat refine wS fun _ _=>?_);intro hnl)|refine wE ?_|(refine wK ?_ ?_<;>intro h)|(refine wB ?_ ?_<;>intro h<;>simp only[h]))|simp(maxSteps:=4000000) (disch:=first|decide|assumption|omega|(simp only[wL];omega)) only[go_sem,simprocAttr,FXs,hat,htk,hdr,hLl,htl])
      ·have hex:ex=[]:=List.eq_nil_of_length_eq_zero (by omega)
       subst hex
       refine .of (.less ?_ (σ1:=(St.none.set nl1 (.row 26 5 [b.c])).set nl5 (.row 3 1 (L.map (fun c=>aR c.id)++[]++[aR x.id]))) (le2 (by simp[St.set, *]) (by simp[St.set, *]))) ⟨(i+1,nl5,[]),rfl,by simp[hsn],⟨by simp only;omega,by assumption⟩,by simp only;omega⟩
       simp(maxSteps:=4000000) (disch:=first|decide|assumption|omega|(simp only[wL];omega)) only[go_sem,simprocAttr,aC,aB]
       all_goals first|rfl|(simp[aB];done)
      ·refine .of (.less ?_ (σ1:=(St.none.set nl1 (.row 26 5 [b.c])).set nl5 (.row 3 1 (L.map (fun c=>aR c.id)++[aR x.id]++ex.drop 1))) (le2 (by simp[St.set, *]) (by simp[St.set, *]))) ⟨(i+1,nl5,ex.drop 1),rfl,by simp[hsn],⟨by simp only;omega,by assumption⟩,by simp only;omega⟩
       simp(maxSteps:=4000000) (disch:=first|decide|assumption|omega|(simp only[wL];omega)) only[go_sem,simprocAttr,aC,aB]
       all_goals first|rfl|(simp[aB];done)
     ·have:i=b.cards.length:=by omega
      subst this
      rw[List.take_length]
      repeat' (first|(with_reducible first|(refine wT ?_;(first|((fail_if_success (have:=nl1));refine wN fun nl1 hnl=>?_)|((fail_if_success (have:=nl2));refine wN fun nl2 hnl=>?_)|((fail_if_success (have:=nl3));refine wN fun nl3 hnl=>?_)|((fail_if_success (have:=nl4));refine wN fun nl4 hnl=>?_)|((fail_if_success (have:=nl5));refine wN fun nl5 hnl=>?_)|refine wN fun _ hnl=>?_);revert hnl;(repeat refine wS fun _ _=>?_);intro hnl)|refine wE ?_|(refine wK ?_ ?_<;>intro h)|(refine wB ?_ ?_<;>intro h<;>simp only[h]))|simp(maxSteps:=4000000) (disch:=first|decide|assumption|omega|(simp only[wL];omega)) only[go_sem,simprocAttr])
      have hK:(b.cards.map fun c=>aR c.id)=(b.cards.map CA.id).map aR:=by rw[List.map_map];rfl
      rw[hK]
      refine aD (α:=Nat) (fun i=>⟨80,[(7,.int .i64 (i:Int)),(5,.lst 1 ((b.cards.map CA.id).map aR) false),(1,.ptr nl1 0 0)],[]⟩) (fun _=>St.none.set nl1 (.row 26 5 [b.c])) (fun i=>i≤b.gr.length∧∀g,g∈b.gr.take i→cG g.mem (b.cards.map CA.id)=[]) (fun i=>b.gr.length - i) (.of (bV.MM (by simp[St.set,St.none, *]) ?_) ⟨0,rfl,rfl,Nat.zero_le _,by simp⟩) ?_
      ·intro p hp
       simp only[List.mem_cons,List.not_mem_nil,or_false] at hp
       rcases hp with rfl|rfl|rfl
       ·exact .same _
       ·exact dW (aM _ _ _) (by simp)
       ·exact .same _
      ·rintro i ⟨hi,hall⟩
       by_cases hlt:i<b.gr.length
       ·obtain⟨g,hg⟩:=bC b.gr hlt
        have hat:=aV (f:=GR.c) hg
        have hm:=Dc g.mem (b.cards.map CA.id) false false (h4 g (bR hg)) (by simpa using h1)
        obtain⟨M,hM⟩:∃M,cG g.mem (b.cards.map CA.id)=M:=⟨_,rfl⟩
        rw[hM] at hm
        have hMl:(M.map aR).length=M.length:=List.length_map _
        by_cases hb:M=[]
        ·subst hb
         repeat' (first|(with_reducible first|refine up hm ?_)|(with_reducible first|(refine wT ?_;(first|((fail_if_success (have:=nl1));refine wN fun nl1 hnl=>?_)|((fail_if_success (have:=nl2));refine wN fun nl2 hnl=>?_)|((fail_if_success (have:=nl3));refine wN fun nl3 hnl=>?_)|((fail_if_success (have:=nl4));refine wN fun nl4 hnl=>?_)|((fail_if_success (have:=nl5));refine wN fun nl5 hnl=>?_)|refine wN fun _ hnl=>?_);revert hnl;(repeat refine wS fun _ _=>?_);intro hnl)|refine wE ?_|(refine wK ?_ ?_<;>intro h)|(refine wB ?_ ?_<;>intro h<;>simp only[h]))|simp(maxSteps:=4000000) (disch:=first|decide|assumption|omega|(simp only[wL];omega)) only[go_sem,simprocAttr,hat])
         all_goals (try (exfalso;omega))
         all_goals
          refine .of (.less ?_ (St.le_refl _)) ⟨i+1,rfl,rfl,⟨by omega,fun e' h'=>?_⟩,by omega⟩
          ·simp(maxSteps:=4000000) (disch:=first|decide|assumption|omega|(simp only[wL];omega)) only[go_sem,simprocAttr,aC,aB]
           all_goals rfl
          ·rw[aO hg,List.mem_append,List.mem_singleton] at h'
           rcases h' with h'|rfl
           ·exact hall e' h'
           ·exact hM
        ·have hf:(b.gr.all fun g=>decide (cG g.mem (b.cards.map CA.id)=[]))=false:=List.all_eq_false.2 ⟨g,bR hg,by rw[hM,decide_eq_false hb];simp⟩
         rw[hf] at hres
         subst hres
         have hpos:0<M.length:=List.length_pos_iff.2 hb
         repeat' (first|(with_reducible first|refine up hm ?_)|(with_reducible first|(refine wT ?_;(first|((fail_if_success (have:=nl1));refine wN fun nl1 hnl=>?_)|((fail_if_success (have:=nl2));refine wN fun nl2 hnl=>?_)|((fail_if_success (have:=nl3));refine wN fun nl3 hnl=>?_)|((fail_if_success (have:=nl4));refine wN fun nl4 hnl=>?_)|((fail_if_success (have:=nl5));refine wN fun nl5 hnl=>?_)|refine wN fun _ hnl=>?_);revert hnl;(repeat refine wS fun _ _=>?_);intro hnl)|refine wE ?_|(refine wK ?_ ?_<;>intro h)|(refine wB ?_ ?_<;>intro h<;>simp only[h]))|simp(maxSteps:=4000000) (disch:=first|decide|assumption|omega|(simp only[wL];omega)) only[go_sem,simprocAttr,hat,hMl])
         all_goals first|exact⟨_,St.le_refl _,rfl⟩|exact⟨_,St.le_refl _⟩|(exfalso;omega)
       ·have:i=b.gr.length:=by omega
        subst this
        rw[List.take_length] at hall
        have ht:(b.gr.all fun g=>decide (cG g.mem (b.cards.map CA.id)=[]))=true:=List.all_eq_true.2 fun e h=>decide_eq_true (hall e h)
        rw[ht] at hres
        subst hres
        repeat' (first|(with_reducible first|(refine wT ?_;(first|((fail_if_success (have:=nl1));refine wN fun nl1 hnl=>?_)|((fail_if_success (have:=nl2));refine wN fun nl2 hnl=>?_)|((fail_if_success (have:=nl3));refine wN fun nl3 hnl=>?_)|((fail_if_success (have:=nl4));refine wN fun nl4 hnl=>?_)|((fail_if_success (have:=nl5));refine wN fun nl5 hnl=>?_)|refine wN fun _ hnl=>?_);revert hnl;(repeat refine wS fun _ _=>?_);intro hnl)|refine wE ?_|(refine wK ?_ ?_<;>intro h)|(refine wB ?_ ?_<;>intro h<;>simp only[h]))|simp(maxSteps:=4000000) (disch:=first|decide|assumption|omega|(simp only[wL];omega)) only[go_sem,simprocAttr])
        all_goals first|exact⟨_,St.le_refl _,rfl⟩|exact⟨_,St.le_refl _⟩
end

section
set_option maxRecDepth 100000
set_option maxHeartbeats 8000000
theorem s5{gr:List GR}(hg:dQ (-1) gr=true){fl:List ND}(hp:bM fl=0){c:CA}(hc:cX c=true)(id:Int)(hid:c.id=id)(tt:Bool):aA Tryz.prog 105 [.lst 5 (fl.map ND.c) tt,.agg c.c,.int .u32 (grB gr id:Int)] St.none (fun r _=>r=.bool (eV gr fl c)):=by
 obtain⟨h1,h2,h3⟩:=tW hp
 have hg':=Gp hg id
 have:=kN (oE c) ⟨c.f.h,uE hc,c.lab.toNat_lt⟩ (grB gr id) (by omega) (sE fl) h1 (by rw[h2];omega) tt
 rw[h2] at this
 unfold eV
 rw[hid]
 exact this
theorem Fx(cs:List CA)(hl:cs.length≤1000000)(tt:Bool)(id:Int):aA Tryz.prog 104 [.lst 27 (cs.map CA.c) tt,.int .i64 id] St.none (fun r _=>r=.tup [.agg ((cs.find? fun c=>decide (c.id=id)).getD ca0).c,.bool (cs.find? fun c=>decide (c.id=id)).isSome]):=by
 refine aA.bF (aA.body 25 [.cell 4 52,.tmp 5] Tryz.func104 rfl rfl rfl rfl ?_)
 repeat' (first|(with_reducible first|(refine wT ?_;(first|((fail_if_success (have:=nl1));refine wN fun nl1 hnl=>?_)|refine wN fun _ hnl=>?_);revert hnl;(repeat refine wS fun _ _=>?_);intro hnl)|refine wE ?_|(refine wK ?_ ?_<;>intro h)|(refine wB ?_ ?_<;>intro h<;>simp only[h]))|simp(maxSteps:=4000000) (disch:=first|exact ddL|fail) only[go_sem,simprocAttr,Tryz.f104])
 refine aD (α:=Nat) (fun i=>⟨25,[(6,.int .i64 (i:Int)),(5,.bool false),(4,.ptr nl1 0 0),(0,.lst 27 (cs.map CA.c) tt),(1,.int .i64 id)],[]⟩) (fun _=>St.none.set nl1 (.row 52 27 [ca0.c])) (fun i=>i≤cs.length∧∀c,c∈cs.take i→c.id≠id) (fun i=>cs.length - i) (.of (.less ?_ (St.le_refl _)) ⟨0,rfl,rfl,Nat.zero_le _,by simp⟩) ?_
 ·simp(maxSteps:=4000000) (disch:=first|exact ddL|fail) only[go_sem,simprocAttr,aC,aB]
  all_goals rfl
 ·rintro i ⟨hi,hq⟩
  by_cases hlt:i<cs.length
  ·obtain⟨y,hy⟩:=bC cs hlt
   have hat:=aV (f:=CA.c) hy
   by_cases he:y.id=id
   ·rw[Hq hq hy he]
    subst he
    simp only[Option.getD_some,Option.isSome_some]
    repeat' (first|(with_reducible first|(refine wT ?_;(first|((fail_if_success (have:=nl1));refine wN fun nl1 hnl=>?_)|refine wN fun _ hnl=>?_);revert hnl;(repeat refine wS fun _ _=>?_);intro hnl)|refine wE ?_|(refine wK ?_ ?_<;>intro h)|(refine wB ?_ ?_<;>intro h<;>simp only[h]))|simp(maxSteps:=4000000) (disch:=first|exact ddL|fail) only[go_sem,simprocAttr,FXs,hat])
    all_goals first|exact⟨_,St.le_refl _,rfl⟩|exact⟨_,St.le_refl _⟩|(exfalso;omega)|skip
   ·repeat' (first|(with_reducible first|(refine wT ?_;(first|((fail_if_success (have:=nl1));refine wN fun nl1 hnl=>?_)|refine wN fun _ hnl=>?_);revert hnl;(repeat refine wS fun _ _=>?_);intro hnl)|refine wE ?_|(refine wK ?_ ?_<;>intro h)|(refine wB ?_ ?_<;>intro h<;>simp only[h]))|simp(maxSteps:=4000000) (disch:=first|exact ddL|fail) only[go_sem,simprocAttr,FXs,hat])
    all_goals (try (exfalso;omega))
    all_goals
     refine .of (.less ?_ (St.le_refl _)) ⟨i+1,rfl,rfl,⟨by omega,fun c h'=>?_⟩,by omega⟩
     ·simp(maxSteps:=4000000) (disch:=first|exact ddL|fail) only[go_sem,simprocAttr,aC,aB]
      all_goals rfl
     ·rw[aO hy,List.mem_append,List.mem_singleton] at h'
      rcases h' with h'|rfl
      ·exact hq c h'
      ·exact he
  ·have:i=cs.length:=by omega
   subst this
   rw[List.take_length] at hq
   have hn:cs.find? (fun c=>decide (c.id=id))=none:=List.find?_eq_none.2 fun x hx=>by simpa using hq x hx
   rw[hn]
   repeat' (first|(with_reducible first|(refine wT ?_;(first|((fail_if_success (have:=nl1));refine wN fun nl1 hnl=>?_)|refine wN fun _ hnl=>?_);revert hnl;(repeat refine wS fun _ _=>?_);intro hnl)|refine wE ?_|(refine wK ?_ ?_<;>intro h)|(refine wB ?_ ?_<;>intro h<;>simp only[h]))|simp(maxSteps:=4000000) (disch:=first|exact ddL|fail) only[go_sem,simprocAttr,FXs])
   all_goals first|exact⟨_,St.le_refl _,rfl⟩|exact⟨_,St.le_refl _⟩|(exfalso;omega)|skip
theorem wC(c:CA)(m:UInt32):aA Tryz.prog 109 [.agg c.c,.int .u32 (m.toNat:Int)] St.none (fun r _=>r=.agg (cW c m).c):=by
 refine aA.bF (aA.body 32 [.cell 4 52] Tryz.func109 rfl rfl rfl rfl ?_)
 have hml:=Fz m
 obtain⟨ml,hm8⟩:∃b,bit m.toNat 8=b:=⟨_,rfl⟩
 rw[hm8] at hml
 have hlab:(cW c m).c=.int .i64 c.id::.int .i64 c.ver::.int .u32 (((if ml=true then c.lab else 0:UInt32).toNat:Nat):Int)::fc (jC c.f m.toNat 8):=by rw[←hm8];rfl
 rw[hlab]
 clear hm8 hlab
 obtain⟨lb,hlb⟩:∃lb:UInt32,(if ml=true then c.lab else 0)=lb:=⟨_,rfl⟩
 rw[hlb]
 have hb:∀i:Nat,i<8→aA Tryz.prog 201 [.int .u32 (m.toNat:Int),.int .i64 (i:Int)] St.none (fun r _=>r=.bool (bit m.toNat i)):=fun i h=>zW m i (by omega)
 cases ml
 all_goals simp only[Bool.false_eq_true,if_false,if_true] at hlb
 ·subst hlb
  repeat' (first|(with_reducible first|refine up hml ?_)|(with_reducible first|(refine wT ?_;(first|((fail_if_success (have:=nl1));refine wN fun nl1 hnl=>?_)|((fail_if_success (have:=nl2));refine wN fun nl2 hnl=>?_)|((fail_if_success (have:=nl3));refine wN fun nl3 hnl=>?_)|refine wN fun _ hnl=>?_);revert hnl;(repeat refine wS fun _ _=>?_);intro hnl)|refine wE ?_|(refine wK ?_ ?_<;>intro h)|(refine wB ?_ ?_<;>intro h<;>simp only[h]))|simp(maxSteps:=4000000) (disch:=first|exact ddL|fail) only[go_sem,simprocAttr,Tryz.f109,FXs])
  refine aD (α:=Nat) (fun i=>⟨32,[(6,.int .i64 (i:Int)),(5,.ptr nl3 0 0),(4,.ptr nl2 0 0),(2,.ptr nl1 0 0),(1,.int .u32 (m.toNat:Int))],[]⟩)
   (fun i=>((St.none.set nl1 (.row 52 27 [c.c])).set nl2 (.row 52 27 [ca0.c])).set nl3 (.row 52 27 [.int .i64 c.id::.int .i64 c.ver::.int .u32 ((0:UInt32).toNat:Int)::fc (jC c.f m.toNat i)])) (fun i=>i≤8) (fun i=>8 - i) (.of (.less ?_ (St.le_refl _)) ⟨0,rfl,rfl,Nat.zero_le _⟩) ?_
  ·simp(maxSteps:=4000000) (disch:=first|exact ddL|fail) only[go_sem,simprocAttr,aC,aB]
   all_goals rfl
  ·rintro i hi
   by_cases h8:i<8
   ·have hbi:=hb i h8
    have hsucc:jC c.f m.toNat (i+1)=if bit m.toNat i=true then(jC c.f m.toNat i).set i (c.f.get i) else jC c.f m.toNat i:=rfl
    obtain⟨g,hg⟩:∃g,jC c.f m.toNat i=g:=⟨_,rfl⟩
    rw[hg] at hsucc ⊢
    cases hbb:bit m.toNat i<;>rw[hbb] at hbi hsucc
    ·rw[if_neg (by simp)] at hsucc
     repeat' (first|(with_reducible first|refine up hbi ?_)|(with_reducible first|(refine wT ?_;(first|((fail_if_success (have:=nl1));refine wN fun nl1 hnl=>?_)|((fail_if_success (have:=nl2));refine wN fun nl2 hnl=>?_)|((fail_if_success (have:=nl3));refine wN fun nl3 hnl=>?_)|refine wN fun _ hnl=>?_);revert hnl;(repeat refine wS fun _ _=>?_);intro hnl)|refine wE ?_|(refine wK ?_ ?_<;>intro h)|(refine wB ?_ ?_<;>intro h<;>simp only[h]))|simp(maxSteps:=4000000) (disch:=first|exact ddL|fail) only[go_sem,simprocAttr,FXs])
     all_goals (try (exfalso;omega))
     all_goals
      refine .of (.less ?_ (St.le_refl _)) ⟨i+1,rfl,by rw[hsucc],by omega,by omega⟩
      simp(maxSteps:=4000000) (disch:=first|exact ddL|fail) only[go_sem,simprocAttr,aC,aB]
      all_goals rfl
    ·rw[if_pos rfl] at hsucc
     repeat' (first|(with_reducible first|refine up hbi ?_)|(with_reducible first|(refine wT ?_;(first|((fail_if_success (have:=nl1));refine wN fun nl1 hnl=>?_)|((fail_if_success (have:=nl2));refine wN fun nl2 hnl=>?_)|((fail_if_success (have:=nl3));refine wN fun nl3 hnl=>?_)|refine wN fun _ hnl=>?_);revert hnl;(repeat refine wS fun _ _=>?_);intro hnl)|refine wE ?_|(refine wK ?_ ?_<;>intro h)|(refine wB ?_ ?_<;>intro h<;>simp only[h]))|simp(maxSteps:=4000000) (disch:=first|exact ddL|fail) only[go_sem,simprocAttr,FXs])
     all_goals (try (exfalso;omega))
     all_goals
      refine .of (.less ?_ (St.le_refl _)) ⟨i+1,rfl,by rw[hsucc];first|rfl|skip,by omega,by omega⟩
      simp(maxSteps:=4000000) (disch:=first|exact ddL|fail) only[go_sem,simprocAttr,aC,aB]
      all_goals rfl
   ·have:i=8:=by omega
    subst this
    repeat' (first|(with_reducible first|(refine wT ?_;(first|((fail_if_success (have:=nl1));refine wN fun nl1 hnl=>?_)|((fail_if_success (have:=nl2));refine wN fun nl2 hnl=>?_)|((fail_if_success (have:=nl3));refine wN fun nl3 hnl=>?_)|refine wN fun _ hnl=>?_);revert hnl;(repeat refine wS fun _ _=>?_);intro hnl)|refine wE ?_|(refine wK ?_ ?_<;>intro h)|(refine wB ?_ ?_<;>intro h<;>simp only[h]))|simp(maxSteps:=4000000) (disch:=first|exact ddL|fail) only[go_sem,simprocAttr,FXs])
    all_goals first|exact⟨_,St.le_refl _,rfl⟩|exact⟨_,St.le_refl _⟩
 ·subst hlb
  repeat' (first|(with_reducible first|refine up hml ?_)|(with_reducible first|(refine wT ?_;(first|((fail_if_success (have:=nl1));refine wN fun nl1 hnl=>?_)|((fail_if_success (have:=nl2));refine wN fun nl2 hnl=>?_)|((fail_if_success (have:=nl3));refine wN fun nl3 hnl=>?_)|refine wN fun _ hnl=>?_);revert hnl;(repeat refine wS fun _ _=>?_);intro hnl)|refine wE ?_|(refine wK ?_ ?_<;>intro h)|(refine wB ?_ ?_<;>intro h<;>simp only[h]))|simp(maxSteps:=4000000) (disch:=first|exact ddL|fail) only[go_sem,simprocAttr,Tryz.f109,FXs])
  refine aD (α:=Nat) (fun i=>⟨32,[(6,.int .i64 (i:Int)),(5,.ptr nl3 0 0),(4,.ptr nl2 0 0),(2,.ptr nl1 0 0),(1,.int .u32 (m.toNat:Int))],[]⟩)
   (fun i=>((St.none.set nl1 (.row 52 27 [c.c])).set nl2 (.row 52 27 [ca0.c])).set nl3 (.row 52 27 [.int .i64 c.id::.int .i64 c.ver::.int .u32 (c.lab.toNat:Int)::fc (jC c.f m.toNat i)])) (fun i=>i≤8) (fun i=>8 - i) (.of (.less ?_ (St.le_refl _)) ⟨0,rfl,rfl,Nat.zero_le _⟩) ?_
  ·simp(maxSteps:=4000000) (disch:=first|exact ddL|fail) only[go_sem,simprocAttr,aC,aB]
   all_goals rfl
  ·rintro i hi
   by_cases h8:i<8
   ·have hbi:=hb i h8
    have hsucc:jC c.f m.toNat (i+1)=if bit m.toNat i=true then(jC c.f m.toNat i).set i (c.f.get i) else jC c.f m.toNat i:=rfl
    obtain⟨g,hg⟩:∃g,jC c.f m.toNat i=g:=⟨_,rfl⟩
    rw[hg] at hsucc ⊢
    cases hbb:bit m.toNat i<;>rw[hbb] at hbi hsucc
    ·rw[if_neg (by simp)] at hsucc
     repeat' (first|(with_reducible first|refine up hbi ?_)|(with_reducible first|(refine wT ?_;(first|((fail_if_success (have:=nl1));refine wN fun nl1 hnl=>?_)|((fail_if_success (have:=nl2));refine wN fun nl2 hnl=>?_)|((fail_if_success (have:=nl3));refine wN fun nl3 hnl=>?_)|refine wN fun _ hnl=>?_);revert hnl;(repeat refine wS fun _ _=>?_);intro hnl)|refine wE ?_|(refine wK ?_ ?_<;>intro h)|(refine wB ?_ ?_<;>intro h<;>simp only[h]))|simp(maxSteps:=4000000) (disch:=first|exact ddL|fail) only[go_sem,simprocAttr,FXs])
     all_goals (try (exfalso;omega))
     all_goals
      refine .of (.less ?_ (St.le_refl _)) ⟨i+1,rfl,by rw[hsucc],by omega,by omega⟩
      simp(maxSteps:=4000000) (disch:=first|exact ddL|fail) only[go_sem,simprocAttr,aC,aB]
      all_goals rfl
    ·rw[if_pos rfl] at hsucc
     repeat' (first|(with_reducible first|refine up hbi ?_)|(with_reducible first|(refine wT ?_;(first|((fail_if_success (have:=nl1));refine wN fun nl1 hnl=>?_)|((fail_if_success (have:=nl2));refine wN fun nl2 hnl=>?_)|((fail_if_success (have:=nl3));refine wN fun nl3 hnl=>?_)|refine wN fun _ hnl=>?_);revert hnl;(repeat refine wS fun _ _=>?_);intro hnl)|refine wE ?_|(refine wK ?_ ?_<;>intro h)|(refine wB ?_ ?_<;>intro h<;>simp only[h]))|simp(maxSteps:=4000000) (disch:=first|exact ddL|fail) only[go_sem,simprocAttr,FXs])
     all_goals (try (exfalso;omega))
     all_goals
      refine .of (.less ?_ (St.le_refl _)) ⟨i+1,rfl,by rw[hsucc];first|rfl|skip,by omega,by omega⟩
      simp(maxSteps:=4000000) (disch:=first|exact ddL|fail) only[go_sem,simprocAttr,aC,aB]
      all_goals rfl
   ·have:i=8:=by omega
    subst this
    repeat' (first|(with_reducible first|(refine wT ?_;(first|((fail_if_success (have:=nl1));refine wN fun nl1 hnl=>?_)|((fail_if_success (have:=nl2));refine wN fun nl2 hnl=>?_)|((fail_if_success (have:=nl3));refine wN fun nl3 hnl=>?_)|refine wN fun _ hnl=>?_);revert hnl;(repeat refine wS fun _ _=>?_);intro hnl)|refine wE ?_|(refine wK ?_ ?_<;>intro h)|(refine wB ?_ ?_<;>intro h<;>simp only[h]))|simp(maxSteps:=4000000) (disch:=first|exact ddL|fail) only[go_sem,simprocAttr,FXs])
    all_goals first|exact⟨_,St.le_refl _,rfl⟩|exact⟨_,St.le_refl _⟩
end

section
set_option maxRecDepth 100000
set_option maxHeartbeats 8000000
theorem Dh(b:BK)(hb:BkR b)(h3:b.gr.length≤1000000)(h4:∀g,g∈b.gr→g.mem.length≤1000000)(fl:List ND)(hp:bM fl=0)(tt:Bool)(id:Int) :
  aA Tryz.prog 28 [.agg b.c,.lst 5 (fl.map ND.c) tt,.int .i64 id] St.none (fun r _=>r=.tup [.agg ((shown b fl id).getD ca0).c,.bool (shown b fl id).isSome]):=by
 refine aA.bF (aA.body 31 [.cell 6 52,.tmp 7] Tryz.func28 rfl rfl rfl rfl ?_)
 have hf:=Fx b.cards (by have:=hb.nc;omega) false id
 have ho:=vY b.gr false h3 h4 hb.gok id
 unfold shown
 cases hfi:b.cards.find? (fun c=>decide (c.id=id)) with
 | none =>
  rw[hfi] at hf
  simp only[Option.getD_none,Option.isSome_none] at hf ⊢
  repeat' (first|(with_reducible first|refine up hf ?_)|(with_reducible first|(refine wN fun _ hnl=>?_;revert hnl;(repeat refine wS fun _ _=>?_);intro hnl)|refine wE ?_|(refine wK ?_ ?_<;>intro h)|(refine wB ?_ ?_<;>intro h<;>simp only[h]))|simp(maxSteps:=4000000) (disch:=first|decide|assumption|omega|(simp only[wL];omega)) only[go_sem,simprocAttr,Tryz.f28,FXs])
  obtain⟨C,c1⟩:∃C:bP,∀ms,C 106 ms=some ⟨[],fun v=>v=.bool true,none⟩:=⟨lO 106 (.bool true),fun _=>cM⟩
  refine aJ mixed (by decide +kernel) C ?_
  repeat' (first|(with_reducible first|(refine wN fun _ hnl=>?_;revert hnl;(repeat refine wS fun _ _=>?_);intro hnl)|refine wE ?_|(refine wK ?_ ?_<;>intro h)|(refine wB ?_ ?_<;>intro h<;>simp only[h]))|simp(maxSteps:=4000000) (disch:=first|decide|assumption|omega|(simp only[wL];omega)) only[go_sem,simprocAttr,FXs])
  all_goals first|exact⟨_,St.le_refl _,rfl⟩|exact⟨_,St.le_refl _⟩
 | some c =>
  rw[hfi] at hf
  have hcm:=List.mem_of_find?_eq_some hfi
  have hid:c.id=id:=by simpa using List.find?_some hfi
  have hm:=s5 hb.gok hp (pX hb hcm).1 id hid tt
  simp only[Option.getD_some,Option.isSome_some] at hf ⊢
  obtain⟨C,c1,c2⟩:∃C:bP,(∀ms,C 106 ms=some ⟨[],fun v=>v=.int .u32 (grB b.gr id:Int),none⟩)∧∀ms,C 105 ms=some ⟨[],fun v=>v=.bool (eV b.gr fl c),none⟩ :=
   ⟨fnF [(106,⟨[],fun v=>v=.int .u32 (grB b.gr id:Int),none⟩),(105,⟨[],fun v=>v=.bool (eV b.gr fl c),none⟩)],fun _=>bN,fun _=>dF bN⟩
  obtain⟨sb,hsb⟩:∃x,eV b.gr fl c=x:=⟨_,rfl⟩
  rw[hsb] at hm c2 ⊢
  obtain⟨gb,hgb⟩:∃x,grB b.gr id=x:=⟨_,rfl⟩
  rw[hgb] at hm ho c1
  repeat' (first|(with_reducible first|refine up hf ?_)|(with_reducible first|(refine wN fun _ hnl=>?_;revert hnl;(repeat refine wS fun _ _=>?_);intro hnl)|refine wE ?_|(refine wK ?_ ?_<;>intro h)|(refine wB ?_ ?_<;>intro h<;>simp only[h]))|simp(maxSteps:=4000000) (disch:=first|decide|assumption|omega|(simp only[wL];omega)) only[go_sem,simprocAttr,Tryz.f28,FXs])
  refine aJ mixed (by decide +kernel) C ?_
  cases sb
  all_goals
   repeat' (first|(with_reducible refine aF (c1 _) ho ?_)|(with_reducible refine aF (c2 _) hm ?_)|(with_reducible first|(refine wN fun _ hnl=>?_;revert hnl;(repeat refine wS fun _ _=>?_);intro hnl)|refine wE ?_|(refine wK ?_ ?_<;>intro h)|(refine wB ?_ ?_<;>intro h<;>simp only[h]))|simp(maxSteps:=4000000) (disch:=first|decide|assumption|omega|(simp only[wL];omega)) only[go_sem,simprocAttr,FXs])
   all_goals first|exact⟨_,St.le_refl _,rfl⟩|exact⟨_,St.le_refl _⟩
theorem Jf(b:BK)(hb:BkR b)(h3:b.gr.length≤1000000)(h4:∀g,g∈b.gr→g.mem.length≤1000000)(fl:List ND)(hp:bM fl=0)(tt:Bool)(id:Int) :
  aA Tryz.prog 160 [.agg b.c,.lst 5 (fl.map ND.c) tt,.int .i64 id] St.none (fun r _=>r=.int .i64 (nL b fl id)):=by
 refine aA.bF (aA.body 18 [.tmp 6] Tryz.func160 rfl rfl rfl rfl ?_)
 have hs:=Dh b hb h3 h4 fl hp tt id
 unfold nL
 obtain⟨x,hx⟩:∃x,(shown b fl id).getD ca0=x:=⟨_,rfl⟩
 obtain⟨y,hy⟩:∃x,(shown b fl id).isSome=x:=⟨_,rfl⟩
 rw[hx,hy] at hs
 rw[hx]
 repeat' (first|(with_reducible first|refine up hs ?_)|(with_reducible first|(refine wN fun _ hnl=>?_;revert hnl;(repeat refine wS fun _ _=>?_);intro hnl)|refine wE ?_|(refine wK ?_ ?_<;>intro h)|(refine wB ?_ ?_<;>intro h<;>simp only[h]))|simp(maxSteps:=4000000) (disch:=first|decide|assumption|omega|(simp only[wL];omega)) only[go_sem,simprocAttr,Tryz.f160,FXs])
 all_goals first|exact⟨_,St.le_refl _,rfl⟩|exact⟨_,St.le_refl _⟩
theorem BS{α:Type}{l:List α}{p:α→Bool}{i:Nat}{x:α}(h:l[i]?=some x):(l.take (i+1)).filter p=(l.take i).filter p++if p x=true then[x] else[]:=by
 rw[aO h,List.filter_append,List.filter_cons]
 split<;>simp
theorem sU(b:BK)(hb:BkR b)(h3:b.gr.length≤1000000)(h4:∀g,g∈b.gr→g.mem.length≤1000000)(fl:List ND)(hp:bM fl=0)(tt:Bool)(m:UInt32)(cur:Int) :
  aA Tryz.prog 33 [.agg b.c,.lst 5 (fl.map ND.c) tt,.int .u32 (m.toNat:Int),.int .i64 cur] St.none (fun r _=>r=.lst 27 ((fZ b fl m cur).map CA.c) false):=by
 refine aA.seen (aA.body 46 [.tmp 8] Tryz.func33 rfl rfl rfl rfl ?_)
 unfold fZ
 rw[List.map_map]
 obtain⟨P,hP⟩:∃P:CA→Bool,(fun c:CA=>decide (c.id≤cur)&&eV b.gr fl c)=P:=⟨_,rfl⟩
 have hPx:∀c:CA,P c=(decide (c.id≤cur)&&eV b.gr fl c):=fun c=>by rw[←hP]
 rw[hP]
 clear hP
 obtain⟨pj,hpj⟩:∃f:CA→List MV,(CA.c ∘ fun c=>cW c m)=f:=⟨_,rfl⟩
 have hpx:∀c:CA,pj c=(cW c m).c:=fun c=>by rw[←hpj];rfl
 rw[hpj]
 clear hpj
 have hcl:=hb.nc
 repeat' (first|(with_reducible first|(refine wT ?_;(first|((fail_if_success (have:=nl1));refine wN fun nl1 hnl=>?_)|((fail_if_success (have:=nl2));refine wN fun nl2 hnl=>?_)|((fail_if_success (have:=nl3));refine wN fun nl3 hnl=>?_)|((fail_if_success (have:=nl4));refine wN fun nl4 hnl=>?_)|((fail_if_success (have:=nl5));refine wN fun nl5 hnl=>?_)|refine wN fun _ hnl=>?_);revert hnl;(repeat refine wS fun _ _=>?_);intro hnl)|refine wE ?_|(refine wK ?_ ?_<;>intro h)|(refine wB ?_ ?_<;>intro h<;>simp only[h]))|simp(maxSteps:=4000000) (disch:=first|decide|assumption|omega|(simp only[wL];omega)) only[go_sem,simprocAttr,Tryz.f33])
 refine aD (α:=Nat × Nat × List (List MV)) (fun s=>⟨46,[(10,.int .i64 (s.1:Int)),(9,.vec 27 s.2.1 0 ((b.cards.take s.1).filter P).length),(4,.ptr nl1 0 0),(1,.lst 5 (fl.map ND.c) tt),(2,.int .u32 (m.toNat:Int)),(3,.int .i64 cur)],[]⟩)
  (fun s=>(St.none.set nl1 (.row 26 5 [b.c])).set s.2.1 (.row 52 27 (((b.cards.take s.1).filter P).map pj++s.2.2))) (fun s=>s.1≤b.cards.length∧s.2.1≠nl1) (fun s=>b.cards.length - s.1) ?_ ?_
 ·refine .of (.less ?_ (St.le_refl _)) ⟨(0,nl2,[]),rfl,by simp,Nat.zero_le _,by assumption⟩
  simp(maxSteps:=4000000) (disch:=first|decide|assumption|omega|(simp only[wL];omega)) only[go_sem,simprocAttr,aC,aB]
  all_goals first|rfl|(simp[aB];done)
 ·rintro⟨i,q,ex⟩ ⟨hi,hq⟩
  simp only at hi hq ⊢
  have hq':=Ne.symm hq
  by_cases hlt:i<b.cards.length
  ·obtain⟨x,hx⟩:=bC b.cards hlt
   have hat:=aV (f:=CA.c) hx
   have hsn:=BS (p:=P) hx
   have hxx:=hPx x
   have hxm:=bR hx
   have ho:=vY b.gr false h3 h4 hb.gok x.id
   have hm:=s5 hb.gok hp (pX hb hxm).1 x.id rfl tt
   have hpr:=wC x m
   rw[←hpx] at hpr
   obtain⟨sb,hsb⟩:∃z,eV b.gr fl x=z:=⟨_,rfl⟩
   obtain⟨gb,hgb⟩:∃z,grB b.gr x.id=z:=⟨_,rfl⟩
   rw[hgb] at hm ho
   rw[hsb] at hm hxx
   have hfl:((b.cards.take i).filter P).length≤i:=Nat.le_trans (List.length_filter_le _ _) (by rw[List.length_take];omega)
   obtain⟨L,hL⟩:∃L,(b.cards.take i).filter P=L:=⟨_,rfl⟩
   rw[hL] at hsn hfl ⊢
   obtain⟨y,hy⟩:∃y,pj x=y:=⟨_,rfl⟩
   have hyl:y.length=27:=by rw[←hy,hpx];simp[CA.c,cL]
   have hyc:y.all MV.aP=true:=by rw[←hy,hpx];simp only[CA.c,List.all_cons,eL];rfl
   rw[hy] at hpr
   obtain⟨C,c1,c2⟩:∃C:bP,(∀ms,C 106 ms=some ⟨[],fun v=>v=.int .u32 (gb:Int),none⟩)∧∀ms,C 105 ms=some ⟨[],fun v=>v=.bool sb,none⟩ :=
    ⟨fnF [(106,⟨[],fun v=>v=.int .u32 (gb:Int),none⟩),(105,⟨[],fun v=>v=.bool sb,none⟩)],fun _=>bN,fun _=>dF bN⟩
   have htk:(L.map pj++ex).take L.length=L.map pj:=j8
   have hdr:(L.map pj++ex).drop (L.length+1)=ex.drop 1:=kS
   have hLl:(L.map pj).length=L.length:=List.length_map _
   by_cases hc:x.id≤cur
   ·rw[decide_eq_true hc,Bool.true_and] at hxx
    cases sb
    ·rw[hxx,if_neg (by simp),List.append_nil] at hsn
     repeat' (first|(with_reducible first|(refine wT ?_;(first|((fail_if_success (have:=nl1));refine wN fun nl1 hnl=>?_)|((fail_if_success (have:=nl2));refine wN fun nl2 hnl=>?_)|((fail_if_success (have:=nl3));refine wN fun nl3 hnl=>?_)|((fail_if_success (have:=nl4));refine wN fun nl4 hnl=>?_)|((fail_if_success (have:=nl5));refine wN fun nl5 hnl=>?_)|refine wN fun _ hnl=>?_);revert hnl;(repeat refine wS fun _ _=>?_);intro hnl)|refine wE ?_|(refine wK ?_ ?_<;>intro h)|(refine wB ?_ ?_<;>intro h<;>simp only[h]))|simp(maxSteps:=4000000) (disch:=first|decide|assumption|omega|(simp only[wL];omega)) only[go_sem,simprocAttr,FXs,hat])
     refine aJ mixed (by decide +kernel) C ?_
     repeat' (first|(with_reducible refine aF (c1 _) ho ?_)|(with_reducible refine aF (c2 _) hm ?_)|(with_reducible first|(refine wT ?_;(first|((fail_if_success (have:=nl1));refine wN fun nl1 hnl=>?_)|((fail_if_success (have:=nl2));refine wN fun nl2 hnl=>?_)|((fail_if_success (have:=nl3));refine wN fun nl3 hnl=>?_)|((fail_if_success (have:=nl4));refine wN fun nl4 hnl=>?_)|((fail_if_success (have:=nl5));refine wN fun nl5 hnl=>?_)|refine wN fun _ hnl=>?_);revert hnl;(repeat refine wS fun _ _=>?_);intro hnl)|refine wE ?_|(refine wK ?_ ?_<;>intro h)|(refine wB ?_ ?_<;>intro h<;>simp only[h]))|simp(maxSteps:=4000000) (disch:=first|decide|assumption|omega|(simp only[wL];omega)) only[go_sem,simprocAttr,FXs])
     all_goals (try (exfalso;omega))
     all_goals
      refine .of (.less ?_ (σ1:=(St.none.set nl1 (.row 26 5 [b.c])).set q (.row 52 27 (L.map pj++ex))) (le2 (by simp[St.set, *]) (by simp[St.set, *]))) ⟨(i+1,q,ex),rfl,by simp only[hsn],⟨by simp only;omega,hq⟩,by simp only;omega⟩
      simp only[hsn]
      simp(maxSteps:=4000000) (disch:=first|decide|assumption|omega|(simp only[wL];omega)) only[go_sem,simprocAttr,aC,aB]
      all_goals first|rfl|(simp[aB];done)
    ·rw[hxx,if_pos rfl] at hsn
     repeat' (first|(with_reducible first|(refine wT ?_;(first|((fail_if_success (have:=nl1));refine wN fun nl1 hnl=>?_)|((fail_if_success (have:=nl2));refine wN fun nl2 hnl=>?_)|((fail_if_success (have:=nl3));refine wN fun nl3 hnl=>?_)|((fail_if_success (have:=nl4));refine wN fun nl4 hnl=>?_)|((fail_if_success (have:=nl5));refine wN fun nl5 hnl=>?_)|refine wN fun _ hnl=>?_);revert hnl;(repeat refine wS fun _ _=>?_);intro hnl)|refine wE ?_|(refine wK ?_ ?_<;>intro h)|(refine wB ?_ ?_<;>intro h<;>simp only[h]))|simp(maxSteps:=4000000) (disch:=first|decide|assumption|omega|(simp only[wL];omega)) only[go_sem,simprocAttr,FXs,hat])
     refine aJ mixed (by decide +kernel) C ?_
     repeat' (first|(with_reducible refine aF (c1 _) ho ?_)|(with_reducible refine aF (c2 _) hm ?_)|(with_reducible refine bB hpr ?_)|(with_reducible first|(refine wT ?_;(first|((fail_if_success (have:=nl1));refine wN fun nl1 hnl=>?_)|((fail_if_success (have:=nl2));refine wN fun nl2 hnl=>?_)|((fail_if_success (have:=nl3));refine wN fun nl3 hnl=>?_)|((fail_if_success (have:=nl4));refine wN fun nl4 hnl=>?_)|((fail_if_success (have:=nl5));refine wN fun nl5 hnl=>?_)|refine wN fun _ hnl=>?_);revert hnl;(repeat refine wS fun _ _=>?_);intro hnl)|refine wE ?_|(refine wK ?_ ?_<;>intro h)|(refine wB ?_ ?_<;>intro h<;>simp only[h]))|simp(maxSteps:=4000000) (disch:=first|decide|assumption|omega|(simp only[wL];omega)) only[go_sem,simprocAttr,FXs,hat,htk,hdr,hLl,hyl,hyc])
     ·have hex:ex=[]:=List.eq_nil_of_length_eq_zero (by omega)
      subst hex
      refine .of (.less ?_ (σ1:=(St.none.set nl1 (.row 26 5 [b.c])).set nl5 (.row 52 27 (L.map pj++[]++[y]))) (le2 (by simp[St.set, *]) (by simp[St.set, *]))) ⟨(i+1,nl5,[]),rfl,by simp[hsn,hy],⟨by simp only;omega,by assumption⟩,by simp only;omega⟩
      simp only[hsn]
      simp(maxSteps:=4000000) (disch:=first|decide|assumption|omega|(simp only[wL];omega)) only[go_sem,simprocAttr,aC,aB]
      all_goals first|rfl|(simp[aB];done)
     ·refine .of (.less ?_ (σ1:=(St.none.set nl1 (.row 26 5 [b.c])).set nl5 (.row 52 27 (L.map pj++[y]++ex.drop 1))) (le2 (by simp[St.set, *]) (by simp[St.set, *]))) ⟨(i+1,nl5,ex.drop 1),rfl,by simp[hsn,hy],⟨by simp only;omega,by assumption⟩,by simp only;omega⟩
      simp only[hsn]
      simp(maxSteps:=4000000) (disch:=first|decide|assumption|omega|(simp only[wL];omega)) only[go_sem,simprocAttr,aC,aB]
      all_goals first|rfl|(simp[aB];done)
   ·rw[decide_eq_false hc,Bool.false_and] at hxx
    rw[hxx,if_neg (by simp),List.append_nil] at hsn
    repeat' (first|(with_reducible first|(refine wT ?_;(first|((fail_if_success (have:=nl1));refine wN fun nl1 hnl=>?_)|((fail_if_success (have:=nl2));refine wN fun nl2 hnl=>?_)|((fail_if_success (have:=nl3));refine wN fun nl3 hnl=>?_)|((fail_if_success (have:=nl4));refine wN fun nl4 hnl=>?_)|((fail_if_success (have:=nl5));refine wN fun nl5 hnl=>?_)|refine wN fun _ hnl=>?_);revert hnl;(repeat refine wS fun _ _=>?_);intro hnl)|refine wE ?_|(refine wK ?_ ?_<;>intro h)|(refine wB ?_ ?_<;>intro h<;>simp only[h]))|simp(maxSteps:=4000000) (disch:=first|decide|assumption|omega|(simp only[wL];omega)) only[go_sem,simprocAttr,FXs,hat])
    refine aJ mixed (by decide +kernel) C ?_
    repeat' (first|(with_reducible refine aF (c1 _) ho ?_)|(with_reducible refine aF (c2 _) hm ?_)|(with_reducible first|(refine wT ?_;(first|((fail_if_success (have:=nl1));refine wN fun nl1 hnl=>?_)|((fail_if_success (have:=nl2));refine wN fun nl2 hnl=>?_)|((fail_if_success (have:=nl3));refine wN fun nl3 hnl=>?_)|((fail_if_success (have:=nl4));refine wN fun nl4 hnl=>?_)|((fail_if_success (have:=nl5));refine wN fun nl5 hnl=>?_)|refine wN fun _ hnl=>?_);revert hnl;(repeat refine wS fun _ _=>?_);intro hnl)|refine wE ?_|(refine wK ?_ ?_<;>intro h)|(refine wB ?_ ?_<;>intro h<;>simp only[h]))|simp(maxSteps:=4000000) (disch:=first|decide|assumption|omega|(simp only[wL];omega)) only[go_sem,simprocAttr,FXs])
    all_goals (try (exfalso;omega))
    all_goals
     refine .of (.less ?_ (σ1:=(St.none.set nl1 (.row 26 5 [b.c])).set q (.row 52 27 (L.map pj++ex))) (le2 (by simp[St.set, *]) (by simp[St.set, *]))) ⟨(i+1,q,ex),rfl,by simp only[hsn],⟨by simp only;omega,hq⟩,by simp only;omega⟩
     simp only[hsn]
     simp(maxSteps:=4000000) (disch:=first|decide|assumption|omega|(simp only[wL];omega)) only[go_sem,simprocAttr,aC,aB]
     all_goals first|rfl|(simp[aB];done)
  ·have:i=b.cards.length:=by omega
   subst this
   rw[List.take_length]
   repeat' (first|(with_reducible first|(refine wT ?_;(first|((fail_if_success (have:=nl1));refine wN fun nl1 hnl=>?_)|((fail_if_success (have:=nl2));refine wN fun nl2 hnl=>?_)|((fail_if_success (have:=nl3));refine wN fun nl3 hnl=>?_)|((fail_if_success (have:=nl4));refine wN fun nl4 hnl=>?_)|((fail_if_success (have:=nl5));refine wN fun nl5 hnl=>?_)|refine wN fun _ hnl=>?_);revert hnl;(repeat refine wS fun _ _=>?_);intro hnl)|refine wE ?_|(refine wK ?_ ?_<;>intro h)|(refine wB ?_ ?_<;>intro h<;>simp only[h]))|simp(maxSteps:=4000000) (disch:=first|decide|assumption|omega|(simp only[wL];omega)) only[go_sem,simprocAttr])
   exact dW (aM _ _ _) (by simp)
theorem HE{b:BK}(hb:BkR b)(fl:List ND):((fZ b fl 0 1073741824).map CA.id)=Eo b fl:=by
 unfold fZ Eo
 rw[List.map_map]
 have e:b.cards.filter (fun c=>decide (c.id≤1073741824)&&eV b.gr fl c)=b.cards.filter (eV b.gr fl):=List.filter_congr fun c hc=>by
  rw[decide_eq_true (by have:=(pX hb hc).2.2;omega),Bool.true_and]
 rw[e]
 rfl
theorem Ja(b:BK)(hb:BkR b)(h3:b.gr.length≤1000000)(h4:∀g,g∈b.gr→g.mem.length≤1000000)(fl:List ND)(hp:bM fl=0)(tt:Bool) :
  aA Tryz.prog 32 [.agg b.c,.lst 5 (fl.map ND.c) tt] St.none (fun r _=>r=.lst 1 ((Eo b fl).map aR) false):=by
 refine aA.seen (aA.body 27 [.tmp 4] Tryz.func32 rfl rfl rfl rfl ?_)
 rw[←HE hb,List.map_map]
 have hi:=sU b hb h3 h4 fl hp tt 0 1073741824
 rw[Pn] at hi
 have hL:(fZ b fl 0 1073741824).length≤48:=by
  unfold fZ
  rw[List.length_map]
  exact Nat.le_trans (List.length_filter_le _ _) hb.nc
 obtain⟨W,hW⟩:∃W,fZ b fl 0 1073741824=W:=⟨_,rfl⟩
 rw[hW] at hi hL ⊢
 have hWl:(W.map CA.c).length=W.length:=List.length_map _
 repeat' (first|(with_reducible first|refine up hi ?_)|(with_reducible first|(refine wT ?_;(first|((fail_if_success (have:=nl1));refine wN fun nl1 hnl=>?_)|((fail_if_success (have:=nl2));refine wN fun nl2 hnl=>?_)|((fail_if_success (have:=nl3));refine wN fun nl3 hnl=>?_)|((fail_if_success (have:=nl4));refine wN fun nl4 hnl=>?_)|refine wN fun _ hnl=>?_);revert hnl;(repeat refine wS fun _ _=>?_);intro hnl)|refine wE ?_|(refine wK ?_ ?_<;>intro h)|(refine wB ?_ ?_<;>intro h<;>simp only[h]))|simp(maxSteps:=4000000) (disch:=first|decide|assumption|omega|(simp only[wL];omega)) only[go_sem,simprocAttr,Tryz.f32])
 refine aD (α:=Nat × Nat × List (List MV)) (fun s=>⟨27,[(7,.int .i64 (s.1:Int)),(6,.vec 1 s.2.1 0 s.1),(5,.lst 27 (W.map CA.c) false)],[]⟩)
  (fun s=>St.none.set s.2.1 (.row 3 1 ((W.take s.1).map (aR ∘ CA.id)++s.2.2))) (fun s=>s.1≤W.length) (fun s=>W.length - s.1) ?_ ?_
 ·refine .of (.less ?_ (σ1:=St.none.set nl2 (.row 3 1 [])) (St.aL (St.none_le _) (by simp[St.set, *]))) ⟨(0,nl2,[]),rfl,by simp,Nat.zero_le _⟩
  simp(maxSteps:=4000000) (disch:=first|decide|assumption|omega|(simp only[wL];omega)) only[go_sem,simprocAttr,aC,aB]
  all_goals first|rfl|(simp[aB];done)
 ·rintro⟨i,q,ex⟩ hi'
  simp only at hi' ⊢
  by_cases hlt:i<W.length
  ·obtain⟨x,hx⟩:=bC W hlt
   have hat:=aV (f:=CA.c) hx
   have hsn:=aO hx
   have htl:(W.take i).length=i:=by rw[List.length_take];omega
   obtain⟨L,hL'⟩:∃L,W.take i=L:=⟨_,rfl⟩
   rw[hL'] at hsn htl ⊢
   have htk:(L.map (aR ∘ CA.id)++ex).take i=L.map (aR ∘ CA.id):=by rw[←htl];exact j8
   have hdr:(L.map (aR ∘ CA.id)++ex).drop (i+1)=ex.drop 1:=by rw[←htl];exact kS
   have hLl:(L.map (aR ∘ CA.id)).length=i:=by rw[List.length_map,htl]
   repeat' (first|(with_reducible first|(refine wT ?_;(first|((fail_if_success (have:=nl1));refine wN fun nl1 hnl=>?_)|((fail_if_success (have:=nl2));refine wN fun nl2 hnl=>?_)|((fail_if_success (have:=nl3));refine wN fun nl3 hnl=>?_)|((fail_if_success (have:=nl4));refine wN fun nl4 hnl=>?_)|refine wN fun _ hnl=>?_);revert hnl;(repeat refine wS fun _ _=>?_);intro hnl)|refine wE ?_|(refine wK ?_ ?_<;>intro h)|(refine wB ?_ ?_<;>intro h<;>simp only[h]))|simp(maxSteps:=4000000) (disch:=first|decide|assumption|omega|(simp only[wL];omega)) only[go_sem,simprocAttr,FXs,hat,htk,hdr,hLl,htl,hWl])
   ·have hex:ex=[]:=List.eq_nil_of_length_eq_zero (by omega)
    subst hex
    refine .of (.less ?_ (σ1:=St.none.set nl4 (.row 3 1 (L.map (aR ∘ CA.id)++[]++[aR x.id]))) (St.aL (St.none_le _) (by simp[St.set, *]))) ⟨(i+1,nl4,[]),rfl,by simp[hsn],by simp only;omega,by simp only;omega⟩
    simp(maxSteps:=4000000) (disch:=first|decide|assumption|omega|(simp only[wL];omega)) only[go_sem,simprocAttr,aC,aB]
    all_goals first|rfl|(simp[aB];done)
   ·refine .of (.less ?_ (σ1:=St.none.set nl4 (.row 3 1 (L.map (aR ∘ CA.id)++[aR x.id]++ex.drop 1))) (St.aL (St.none_le _) (by simp[St.set, *]))) ⟨(i+1,nl4,ex.drop 1),rfl,by simp[hsn],by simp only;omega,by simp only;omega⟩
    simp(maxSteps:=4000000) (disch:=first|decide|assumption|omega|(simp only[wL];omega)) only[go_sem,simprocAttr,aC,aB]
    all_goals first|rfl|(simp[aB];done)
  ·have:i=W.length:=by omega
   subst this
   rw[List.take_length]
   repeat' (first|(with_reducible first|(refine wT ?_;(first|((fail_if_success (have:=nl1));refine wN fun nl1 hnl=>?_)|((fail_if_success (have:=nl2));refine wN fun nl2 hnl=>?_)|((fail_if_success (have:=nl3));refine wN fun nl3 hnl=>?_)|((fail_if_success (have:=nl4));refine wN fun nl4 hnl=>?_)|refine wN fun _ hnl=>?_);revert hnl;(repeat refine wS fun _ _=>?_);intro hnl)|refine wE ?_|(refine wK ?_ ?_<;>intro h)|(refine wB ?_ ?_<;>intro h<;>simp only[h]))|simp(maxSteps:=4000000) (disch:=first|decide|assumption|omega|(simp only[wL];omega)) only[go_sem,simprocAttr,hWl])
   exact dW (aM _ _ _) (by simp)
end
end Go.Proofs.YtojmhmejdihaaaaGreatDoor
