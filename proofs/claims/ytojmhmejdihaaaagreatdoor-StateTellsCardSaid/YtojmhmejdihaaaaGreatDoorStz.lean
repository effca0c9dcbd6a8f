/- Parts of the proof, joined; conditions: those that its theorems name. -/
import Derived.Test.YtojmhmejdihaaaaGreatDoorSty
set_option linter.unusedVariables false
set_option linter.unusedSimpArgs false
set_option maxHeartbeats 4000000
namespace Go.Proofs.YtojmhmejdihaaaaGreatDoor
set_option maxRecDepth 100000
set_option maxHeartbeats 8000000
def SuF(l:List SU):Prop:=∀x,x∈l→x.fl.length≤1000000∧x.mem.length≤1000000∧x.log.length≤1000000
theorem nM{b:BK}{fl:List ND}{m:UInt32}{floor:Int}{log:List TU}(h:dI b fl m floor log=true):bM fl=0:=by
 unfold dI at h
 simp only[Bool.and_eq_true,decide_eq_true_eq] at h
 exact h.1.1.1.1.1
theorem FC(b:BK)(hb:BkR b)(h3:b.gr.length≤1000000)(h4:∀g,g∈b.gr→g.mem.length≤1000000)(l:List SU)(hl:l.length≤1000000)(hs:SuF l)(tt:Bool) :
  aA Tryz.prog 86 [.lst 7 (l.map SU.c) tt,.agg b.c] St.none (fun r _=>r=.bool (decide (l.length≤4)&&cP b (-1) l)):=by
 refine aA.bF (aA.body 74 [.tmp 4] Tryz.func86 rfl rfl rfl rfl ?_)
 by_cases h4l:l.length≤4
 rotate_left
 ·rw[decide_eq_false h4l,Bool.false_and]
  repeat' (first|(with_reducible first|(refine wT ?_;(first|((fail_if_success (have:=nl1));refine wN fun nl1 hnl=>?_)|refine wN fun _ hnl=>?_);revert hnl;(repeat refine wS fun _ _=>?_);intro hnl)|refine wE ?_|(refine wK ?_ ?_<;>intro h)|(refine wB ?_ ?_<;>intro h<;>simp only[h]))|simp(maxSteps:=4000000) (disch:=first|decide|assumption|omega|(simp only[wL];omega)) only[go_sem,simprocAttr,Tryz.f86])
  all_goals first|exact⟨_,St.le_refl _,rfl⟩|exact⟨_,St.le_refl _⟩|(exfalso;omega)
 ·rw[decide_eq_true h4l,Bool.true_and]
  obtain⟨res,hres⟩:∃z,cP b (-1) l=z:=⟨_,rfl⟩
  rw[hres]
  repeat' (first|(with_reducible first|(refine wT ?_;(first|((fail_if_success (have:=nl1));refine wN fun nl1 hnl=>?_)|refine wN fun _ hnl=>?_);revert hnl;(repeat refine wS fun _ _=>?_);intro hnl)|refine wE ?_|(refine wK ?_ ?_<;>intro h)|(refine wB ?_ ?_<;>intro h<;>simp only[h]))|simp(maxSteps:=4000000) (disch:=first|decide|assumption|omega|(simp only[wL];omega)) only[go_sem,simprocAttr,Tryz.f86])
  all_goals (try (exfalso;omega))
  refine aD (α:=Nat) (fun i=>⟨74,[(5,.int .i64 (i:Int)),(3,.ptr nl1 0 0),(0,.lst 7 (l.map SU.c) tt)],[]⟩) (fun _=>St.none.set nl1 (.row 26 5 [b.c])) (fun i=>i≤l.length∧-1≤bY (l.map SU.dev) i (-1)∧res=cP b (bY (l.map SU.dev) i (-1)) (l.drop i)) (fun i=>l.length - i) (.of (.less ?_ (St.le_refl _)) ⟨0,rfl,rfl,Nat.zero_le _,Int.le_refl _,hres.symm⟩) ?_
  ·simp(maxSteps:=4000000) (disch:=first|decide|assumption|omega|(simp only[wL];omega)) only[go_sem,simprocAttr,aC,aB]
   all_goals rfl
  ·rintro i ⟨hi,hpos,hq⟩
   by_cases hlt:i<l.length
   ·obtain⟨x,hx⟩:=bC l hlt
    rw[cY hx,cP] at hq
    have hat:=aV (f:=SU.c) hx
    have hnext:=eM (fM (f:=SU.dev) hx) (z:=-1)
    have hto:((i:Int) - 1).toNat=i - 1:=by omega
    have hl0:i=0→bY (l.map SU.dev) i (-1) = -1:=fun h=>if_pos h
    have hl1:0<i→∃y:SU,(l.map SU.c).getD (i - 1) []=y.c∧bY (l.map SU.dev) i (-1)=y.dev:=fun h=>by
     obtain⟨y,hy⟩:=qP hi h
     refine⟨y,aV hy,?_⟩
     unfold bY
     rw[if_neg (by omega),List.getD_eq_getElem?_getD,fM hy];rfl
    obtain⟨z1,z2,z3⟩:=hs x (bR hx)
    have hvw:=FD b hb h3 h4 x.fl false x.mask x.floor x.log z3 false
    have hids:=fun(h:dI b x.fl x.mask x.floor x.log=true)=>Ja b hb h3 h4 x.fl (nM h) false
    have hint:=pG x.mem (Eo b x.fl) z2 false false
    obtain⟨last,hlast⟩:∃k,bY (l.map SU.dev) i (-1)=k:=⟨_,rfl⟩
    rw[hlast] at hq hl0 hl1 hpos
    unfold tB big at hq
    obtain⟨vo,hvo⟩:∃z,dI b x.fl x.mask x.floor x.log=z:=⟨_,rfl⟩
    rw[hvo] at hvw hids hq
    obtain⟨K,hK⟩:∃z,Eo b x.fl=z:=⟨_,rfl⟩
    rw[hK] at hids hint hq
    obtain⟨ie,hie⟩:∃z,decide (x.mem=K)=z:=⟨_,rfl⟩
    rw[hie] at hint hq
    obtain⟨C,c1,c2,c3⟩:∃C:bP,(∀ms,C 78 ms=some ⟨[],fun v=>v=.bool vo,none⟩)∧(∀ms,C 32 ms=some ⟨[],fun v=>v=.lst 1 (K.map aR) false,none⟩)∧∀ms,C 31 ms=some ⟨[],fun v=>v=.bool ie,none⟩ :=
     ⟨fnF [(78,⟨[],fun v=>v=.bool vo,none⟩),(32,⟨[],fun v=>v=.lst 1 (K.map aR) false,none⟩),(31,⟨[],fun v=>v=.bool ie,none⟩)],fun _=>bN,fun _=>dF bN,fun _=>dF (dF bN)⟩
    by_cases hr:last<x.dev∧1≤x.ep∧x.ep≤1099511627776∧x.dev<6
    ·obtain⟨r1,r2,r3,r4⟩:=hr
     rw[decide_eq_true r1,decide_eq_true ⟨r2,r3,r4⟩,Bool.true_and,Bool.true_and] at hq
     cases vo
     ·rw[Bool.false_and,Bool.false_and] at hq
      subst hq
      rcases Nat.eq_zero_or_pos i with hi0|hi0
      ·have:=hl0 hi0
       repeat' (first|(with_reducible first|(refine wT ?_;(first|((fail_if_success (have:=nl1));refine wN fun nl1 hnl=>?_)|refine wN fun _ hnl=>?_);revert hnl;(repeat refine wS fun _ _=>?_);intro hnl)|refine wE ?_|(refine wK ?_ ?_<;>intro h)|(refine wB ?_ ?_<;>intro h<;>simp only[h]))|simp(maxSteps:=4000000) (disch:=first|decide|assumption|omega|(simp only[wL];omega)) only[go_sem,simprocAttr,FXs,hat,hto])
       all_goals (try (exfalso;omega))
       all_goals
        refine aJ mixed (by decide +kernel) C ?_
        repeat' (first|(with_reducible refine aF (c1 _) hvw ?_)|(with_reducible refine aF (c2 _) (hids rfl) ?_)|(with_reducible refine aF (c3 _) hint ?_)|(with_reducible first|(refine wT ?_;(first|((fail_if_success (have:=nl1));refine wN fun nl1 hnl=>?_)|refine wN fun _ hnl=>?_);revert hnl;(repeat refine wS fun _ _=>?_);intro hnl)|refine wE ?_|(refine wK ?_ ?_<;>intro h)|(refine wB ?_ ?_<;>intro h<;>simp only[h]))|simp(maxSteps:=4000000) (disch:=first|decide|assumption|omega|(simp only[wL];omega)) only[go_sem,simprocAttr,FXs])
        all_goals first|exact⟨_,St.le_refl _,rfl⟩|exact⟨_,St.le_refl _⟩|(exfalso;omega)
      ·obtain⟨y,hy,hly⟩:=hl1 hi0
       repeat' (first|(with_reducible first|(refine wT ?_;(first|((fail_if_success (have:=nl1));refine wN fun nl1 hnl=>?_)|refine wN fun _ hnl=>?_);revert hnl;(repeat refine wS fun _ _=>?_);intro hnl)|refine wE ?_|(refine wK ?_ ?_<;>intro h)|(refine wB ?_ ?_<;>intro h<;>simp only[h]))|simp(maxSteps:=4000000) (disch:=first|decide|assumption|omega|(simp only[wL];omega)) only[go_sem,simprocAttr,FXs,hat,hto,hy])
       all_goals (try (exfalso;omega))
       all_goals
        refine aJ mixed (by decide +kernel) C ?_
        repeat' (first|(with_reducible refine aF (c1 _) hvw ?_)|(with_reducible refine aF (c2 _) (hids rfl) ?_)|(with_reducible refine aF (c3 _) hint ?_)|(with_reducible first|(refine wT ?_;(first|((fail_if_success (have:=nl1));refine wN fun nl1 hnl=>?_)|refine wN fun _ hnl=>?_);revert hnl;(repeat refine wS fun _ _=>?_);intro hnl)|refine wE ?_|(refine wK ?_ ?_<;>intro h)|(refine wB ?_ ?_<;>intro h<;>simp only[h]))|simp(maxSteps:=4000000) (disch:=first|decide|assumption|omega|(simp only[wL];omega)) only[go_sem,simprocAttr,FXs])
        all_goals first|exact⟨_,St.le_refl _,rfl⟩|exact⟨_,St.le_refl _⟩|(exfalso;omega)
     ·cases ie
      ·rw[Bool.and_false,Bool.false_and] at hq
       subst hq
       rcases Nat.eq_zero_or_pos i with hi0|hi0
       ·have:=hl0 hi0
        repeat' (first|(with_reducible first|(refine wT ?_;(first|((fail_if_success (have:=nl1));refine wN fun nl1 hnl=>?_)|refine wN fun _ hnl=>?_);revert hnl;(repeat refine wS fun _ _=>?_);intro hnl)|refine wE ?_|(refine wK ?_ ?_<;>intro h)|(refine wB ?_ ?_<;>intro h<;>simp only[h]))|simp(maxSteps:=4000000) (disch:=first|decide|assumption|omega|(simp only[wL];omega)) only[go_sem,simprocAttr,FXs,hat,hto])
        all_goals (try (exfalso;omega))
        all_goals
         refine aJ mixed (by decide +kernel) C ?_
         repeat' (first|(with_reducible refine aF (c1 _) hvw ?_)|(with_reducible refine aF (c2 _) (hids rfl) ?_)|(with_reducible refine aF (c3 _) hint ?_)|(with_reducible first|(refine wT ?_;(first|((fail_if_success (have:=nl1));refine wN fun nl1 hnl=>?_)|refine wN fun _ hnl=>?_);revert hnl;(repeat refine wS fun _ _=>?_);intro hnl)|refine wE ?_|(refine wK ?_ ?_<;>intro h)|(refine wB ?_ ?_<;>intro h<;>simp only[h]))|simp(maxSteps:=4000000) (disch:=first|decide|assumption|omega|(simp only[wL];omega)) only[go_sem,simprocAttr,FXs])
         all_goals first|exact⟨_,St.le_refl _,rfl⟩|exact⟨_,St.le_refl _⟩|(exfalso;omega)
       ·obtain⟨y,hy,hly⟩:=hl1 hi0
        repeat' (first|(with_reducible first|(refine wT ?_;(first|((fail_if_success (have:=nl1));refine wN fun nl1 hnl=>?_)|refine wN fun _ hnl=>?_);revert hnl;(repeat refine wS fun _ _=>?_);intro hnl)|refine wE ?_|(refine wK ?_ ?_<;>intro h)|(refine wB ?_ ?_<;>intro h<;>simp only[h]))|simp(maxSteps:=4000000) (disch:=first|decide|assumption|omega|(simp only[wL];omega)) only[go_sem,simprocAttr,FXs,hat,hto,hy])
        all_goals (try (exfalso;omega))
        all_goals
         refine aJ mixed (by decide +kernel) C ?_
         repeat' (first|(with_reducible refine aF (c1 _) hvw ?_)|(with_reducible refine aF (c2 _) (hids rfl) ?_)|(with_reducible refine aF (c3 _) hint ?_)|(with_reducible first|(refine wT ?_;(first|((fail_if_success (have:=nl1));refine wN fun nl1 hnl=>?_)|refine wN fun _ hnl=>?_);revert hnl;(repeat refine wS fun _ _=>?_);intro hnl)|refine wE ?_|(refine wK ?_ ?_<;>intro h)|(refine wB ?_ ?_<;>intro h<;>simp only[h]))|simp(maxSteps:=4000000) (disch:=first|decide|assumption|omega|(simp only[wL];omega)) only[go_sem,simprocAttr,FXs])
         all_goals first|exact⟨_,St.le_refl _,rfl⟩|exact⟨_,St.le_refl _⟩|(exfalso;omega)
      ·rw[Bool.and_true,Bool.true_and] at hq
       rcases Nat.eq_zero_or_pos i with hi0|hi0
       ·have:=hl0 hi0
        repeat' (first|(with_reducible first|(refine wT ?_;(first|((fail_if_success (have:=nl1));refine wN fun nl1 hnl=>?_)|refine wN fun _ hnl=>?_);revert hnl;(repeat refine wS fun _ _=>?_);intro hnl)|refine wE ?_|(refine wK ?_ ?_<;>intro h)|(refine wB ?_ ?_<;>intro h<;>simp only[h]))|simp(maxSteps:=4000000) (disch:=first|decide|assumption|omega|(simp only[wL];omega)) only[go_sem,simprocAttr,FXs,hat,hto])
        all_goals (try (exfalso;omega))
        all_goals
         refine aJ mixed (by decide +kernel) C ?_
         repeat' (first|(with_reducible refine aF (c1 _) hvw ?_)|(with_reducible refine aF (c2 _) (hids rfl) ?_)|(with_reducible refine aF (c3 _) hint ?_)|(with_reducible first|(refine wT ?_;(first|((fail_if_success (have:=nl1));refine wN fun nl1 hnl=>?_)|refine wN fun _ hnl=>?_);revert hnl;(repeat refine wS fun _ _=>?_);intro hnl)|refine wE ?_|(refine wK ?_ ?_<;>intro h)|(refine wB ?_ ?_<;>intro h<;>simp only[h]))|simp(maxSteps:=4000000) (disch:=first|decide|assumption|omega|(simp only[wL];omega)) only[go_sem,simprocAttr,FXs])
         all_goals (try (exfalso;omega))
         all_goals
          refine .of (.less ?_ (σ1:=St.none.set nl1 (.row 26 5 [b.c])) (St.aL (St.none_le _) (by simp[St.set, *]))) ⟨i+1,rfl,rfl,⟨by omega,by rw[hnext];omega,by rw[hnext];exact hq⟩,by omega⟩
          simp(maxSteps:=4000000) (disch:=first|decide|assumption|omega|(simp only[wL];omega)) only[go_sem,simprocAttr,aC,aB]
          all_goals rfl
       ·obtain⟨y,hy,hly⟩:=hl1 hi0
        repeat' (first|(with_reducible first|(refine wT ?_;(first|((fail_if_success (have:=nl1));refine wN fun nl1 hnl=>?_)|refine wN fun _ hnl=>?_);revert hnl;(repeat refine wS fun _ _=>?_);intro hnl)|refine wE ?_|(refine wK ?_ ?_<;>intro h)|(refine wB ?_ ?_<;>intro h<;>simp only[h]))|simp(maxSteps:=4000000) (disch:=first|decide|assumption|omega|(simp only[wL];omega)) only[go_sem,simprocAttr,FXs,hat,hto,hy])
        all_goals (try (exfalso;omega))
        all_goals
         refine aJ mixed (by decide +kernel) C ?_
         repeat' (first|(with_reducible refine aF (c1 _) hvw ?_)|(with_reducible refine aF (c2 _) (hids rfl) ?_)|(with_reducible refine aF (c3 _) hint ?_)|(with_reducible first|(refine wT ?_;(first|((fail_if_success (have:=nl1));refine wN fun nl1 hnl=>?_)|refine wN fun _ hnl=>?_);revert hnl;(repeat refine wS fun _ _=>?_);intro hnl)|refine wE ?_|(refine wK ?_ ?_<;>intro h)|(refine wB ?_ ?_<;>intro h<;>simp only[h]))|simp(maxSteps:=4000000) (disch:=first|decide|assumption|omega|(simp only[wL];omega)) only[go_sem,simprocAttr,FXs])
         all_goals (try (exfalso;omega))
         all_goals
          refine .of (.less ?_ (σ1:=St.none.set nl1 (.row 26 5 [b.c])) (St.aL (St.none_le _) (by simp[St.set, *]))) ⟨i+1,rfl,rfl,⟨by omega,by rw[hnext];omega,by rw[hnext];exact hq⟩,by omega⟩
          simp(maxSteps:=4000000) (disch:=first|decide|assumption|omega|(simp only[wL];omega)) only[go_sem,simprocAttr,aC,aB]
          all_goals rfl
    ·have hf:res=false:=by
      rw[hq]
      by_cases h1:last<x.dev
      ·rw[decide_eq_true h1,decide_eq_false fun h=>hr ⟨h1,h⟩];simp
      ·rw[decide_eq_false h1];simp
     subst hf
     clear hq
     rcases Nat.eq_zero_or_pos i with hi0|hi0
     ·have:=hl0 hi0
      repeat' (first|(with_reducible first|(refine wT ?_;(first|((fail_if_success (have:=nl1));refine wN fun nl1 hnl=>?_)|refine wN fun _ hnl=>?_);revert hnl;(repeat refine wS fun _ _=>?_);intro hnl)|refine wE ?_|(refine wK ?_ ?_<;>intro h)|(refine wB ?_ ?_<;>intro h<;>simp only[h]))|simp(maxSteps:=4000000) (disch:=first|decide|assumption|omega|(simp only[wL];omega)) only[go_sem,simprocAttr,FXs,hat,hto])
      all_goals first|exact⟨_,St.le_refl _,rfl⟩|exact⟨_,St.le_refl _⟩|(exfalso;omega)
     ·obtain⟨y,hy,hly⟩:=hl1 hi0
      repeat' (first|(with_reducible first|(refine wT ?_;(first|((fail_if_success (have:=nl1));refine wN fun nl1 hnl=>?_)|refine wN fun _ hnl=>?_);revert hnl;(repeat refine wS fun _ _=>?_);intro hnl)|refine wE ?_|(refine wK ?_ ?_<;>intro h)|(refine wB ?_ ?_<;>intro h<;>simp only[h]))|simp(maxSteps:=4000000) (disch:=first|decide|assumption|omega|(simp only[wL];omega)) only[go_sem,simprocAttr,FXs,hat,hto,hy])
      all_goals first|exact⟨_,St.le_refl _,rfl⟩|exact⟨_,St.le_refl _⟩|(exfalso;omega)
   ·have:i=l.length:=by omega
    subst this
    rw[List.drop_length,cP] at hq
    rw[hq]
    repeat' (first|(with_reducible first|(refine wT ?_;(first|((fail_if_success (have:=nl1));refine wN fun nl1 hnl=>?_)|refine wN fun _ hnl=>?_);revert hnl;(repeat refine wS fun _ _=>?_);intro hnl)|refine wE ?_|(refine wK ?_ ?_<;>intro h)|(refine wB ?_ ?_<;>intro h<;>simp only[h]))|simp(maxSteps:=4000000) (disch:=first|decide|assumption|omega|(simp only[wL];omega)) only[go_sem,simprocAttr])
    all_goals first|exact⟨_,St.le_refl _,rfl⟩|exact⟨_,St.le_refl _⟩
end Go.Proofs.YtojmhmejdihaaaaGreatDoor
