/- Parts of the proof, joined; conditions: those that its theorems name. -/
import Derived.Test.YtojmhmejdihaaaaGreatDoorStx
set_option linter.unusedVariables false
set_option linter.unusedSimpArgs false
set_option maxHeartbeats 4000000
namespace Go.Proofs.YtojmhmejdihaaaaGreatDoor
section
set_option maxRecDepth 100000
set_option maxHeartbeats 8000000
theorem j0:∀(l:List TU) (x:TU) (id:Int),cQ (l++[x]) id=if x.id=id then some x.new else cQ l id
 | [],x,id=>by simp[cQ]
 | t::l,x,id=>by
  rw[List.cons_append,cQ,j0 l x id,cQ]
  by_cases h:x.id=id
  ·rw[if_pos h,if_pos h]
  ·rw[if_neg h,if_neg h]
theorem pM:∀(l:List TU) (x:TU),oX (l++[x])=x.sq
 | [],x=>rfl
 | [t],x=>rfl
 | t::t'::l,x=>by
  rw[List.cons_append,List.cons_append,oX,←List.cons_append,pM]
theorem Md{t:TU}(h:xC t=true):1≤t.sq:=by
 unfold xC at h
 rw[Bool.and_eq_true,decide_eq_true_eq] at h
 exact h.1.1
theorem LO(t:TU):aA Tryz.prog 246 [.agg t.c] St.none (fun r _=>r=.bool (xC t)):=by
 refine aA.bF (aA.body 74 [.tmp 2] Tryz.func246 rfl rfl rfl rfl ?_)
 obtain⟨res,hres⟩:∃b,xC t=b:=⟨_,rfl⟩
 rw[hres]
 unfold xC eD big at hres
 have hc:=qR t.card
 have hm:cC Tryz.prog 52 .eql (.agg t.card.c) (.agg (.int .i64 0::.int .i64 0::.int .u32 0::fc f80))=some (True,.bool (decide (t.card=ca0))):=uY t.card ca0
 by_cases hr:1≤t.sq∧t.sq≤1099511627776∧1≤t.id∧t.id<1073741824∧0≤t.old∧t.old≤1099511627776∧0≤t.new∧t.new≤1099511627776∧t.old≠t.new
 ·rw[decide_eq_true hr,Bool.true_and] at hres
  obtain⟨r1,r2,r3,r4,r5,r6,r7,r8,r9⟩:=hr
  by_cases h0:t.new=0
  ·rw[if_pos h0] at hres
   rw[hres] at hm
   repeat' (first|(with_reducible first|(refine wN fun _ hnl=>?_;revert hnl;(repeat refine wS fun _ _=>?_);intro hnl)|refine wE ?_|(refine wK ?_ ?_<;>intro h)|(refine wB ?_ ?_<;>intro h<;>simp only[h]))|simp(maxSteps:=4000000) (disch:=first|decide|assumption|omega|(simp only[wL];omega)) only[go_sem,simprocAttr,Tryz.f246,FXs,hm])
   all_goals first|exact⟨_,St.le_refl _,rfl⟩|exact⟨_,St.le_refl _⟩|(exfalso;omega)
  ·rw[if_neg h0] at hres
   obtain⟨ok,hok⟩:∃b,cX t.card=b:=⟨_,rfl⟩
   rw[hok] at hc hres
   cases ok
   ·rw[Bool.false_and] at hres
    subst hres
    repeat' (first|(with_reducible first|refine up hc ?_)|(with_reducible first|(refine wN fun _ hnl=>?_;revert hnl;(repeat refine wS fun _ _=>?_);intro hnl)|refine wE ?_|(refine wK ?_ ?_<;>intro h)|(refine wB ?_ ?_<;>intro h<;>simp only[h]))|simp(maxSteps:=4000000) (disch:=first|decide|assumption|omega|(simp only[wL];omega)) only[go_sem,simprocAttr,Tryz.f246,FXs])
    all_goals first|exact⟨_,St.le_refl _,rfl⟩|exact⟨_,St.le_refl _⟩|(exfalso;omega)
   ·rw[Bool.true_and] at hres
    by_cases h1:t.card.id=t.id
    ·by_cases h2:t.card.ver=t.new
     ·rw[decide_eq_true ⟨h1,h2⟩] at hres
      subst hres
      repeat' (first|(with_reducible first|refine up hc ?_)|(with_reducible first|(refine wN fun _ hnl=>?_;revert hnl;(repeat refine wS fun _ _=>?_);intro hnl)|refine wE ?_|(refine wK ?_ ?_<;>intro h)|(refine wB ?_ ?_<;>intro h<;>simp only[h]))|simp(maxSteps:=4000000) (disch:=first|decide|assumption|omega|(simp only[wL];omega)) only[go_sem,simprocAttr,Tryz.f246,FXs])
      all_goals first|exact⟨_,St.le_refl _,rfl⟩|exact⟨_,St.le_refl _⟩|(exfalso;omega)|(refine⟨_,St.le_refl _,?_⟩;simp[*])
     ·rw[decide_eq_false fun h=>h2 h.2] at hres
      subst hres
      repeat' (first|(with_reducible first|refine up hc ?_)|(with_reducible first|(refine wN fun _ hnl=>?_;revert hnl;(repeat refine wS fun _ _=>?_);intro hnl)|refine wE ?_|(refine wK ?_ ?_<;>intro h)|(refine wB ?_ ?_<;>intro h<;>simp only[h]))|simp(maxSteps:=4000000) (disch:=first|decide|assumption|omega|(simp only[wL];omega)) only[go_sem,simprocAttr,Tryz.f246,FXs])
      all_goals first|exact⟨_,St.le_refl _,rfl⟩|exact⟨_,St.le_refl _⟩|(exfalso;omega)|(refine⟨_,St.le_refl _,?_⟩;simp[*])
    ·rw[decide_eq_false fun h=>h1 h.1] at hres
     subst hres
     repeat' (first|(with_reducible first|refine up hc ?_)|(with_reducible first|(refine wN fun _ hnl=>?_;revert hnl;(repeat refine wS fun _ _=>?_);intro hnl)|refine wE ?_|(refine wK ?_ ?_<;>intro h)|(refine wB ?_ ?_<;>intro h<;>simp only[h]))|simp(maxSteps:=4000000) (disch:=first|decide|assumption|omega|(simp only[wL];omega)) only[go_sem,simprocAttr,Tryz.f246,FXs])
     all_goals first|exact⟨_,St.le_refl _,rfl⟩|exact⟨_,St.le_refl _⟩|(exfalso;omega)|(refine⟨_,St.le_refl _,?_⟩;simp[*])
 ·rw[decide_eq_false hr,Bool.false_and] at hres
  subst hres
  repeat' (first|(with_reducible first|(refine wN fun _ hnl=>?_;revert hnl;(repeat refine wS fun _ _=>?_);intro hnl)|refine wE ?_|(refine wK ?_ ?_<;>intro h)|(refine wB ?_ ?_<;>intro h<;>simp only[h]))|simp(maxSteps:=4000000) (disch:=first|decide|assumption|omega|(simp only[wL];omega)) only[go_sem,simprocAttr,Tryz.f246,FXs])
  all_goals first|exact⟨_,St.le_refl _,rfl⟩|exact⟨_,St.le_refl _⟩|(exfalso;omega)
theorem Je(l:List TU)(hl:l.length≤1000000)(tt:Bool):aA Tryz.prog 159 [.lst 31 (l.map TU.c) tt] St.none (fun r _=>r=.bool (eY [] l)):=by
 refine aA.bF (aA.body 63 [.tmp 2] Tryz.func159 rfl rfl rfl rfl ?_)
 obtain⟨res,hres⟩:∃b,eY [] l=b:=⟨_,rfl⟩
 rw[hres]
 repeat' (first|(with_reducible first|(refine wN fun _ hnl=>?_;revert hnl;(repeat refine wS fun _ _=>?_);intro hnl)|refine wE ?_|(refine wK ?_ ?_<;>intro h)|(refine wB ?_ ?_<;>intro h<;>simp only[h]))|simp(maxSteps:=4000000) (disch:=first|decide|assumption|omega|(simp only[wL];omega)) only[go_sem,simprocAttr,Tryz.f159])
 refine aD (α:=Nat) (fun i=>⟨63,[(3,.int .i64 (i:Int)),(0,.lst 31 (l.map TU.c) tt)],[]⟩) (fun _=>St.none) (fun i=>i≤l.length∧res=eY (l.take i) (l.drop i)) (fun i=>l.length - i) (.of (.less ?_ (St.le_refl _)) ⟨0,rfl,rfl,Nat.zero_le _,hres.symm⟩) ?_
 ·simp(maxSteps:=4000000) (disch:=first|decide|assumption|omega|(simp only[wL];omega)) only[go_sem,simprocAttr,aC,aB]
  all_goals rfl
 ·rintro i ⟨hi,hq⟩
  by_cases hlt:i<l.length
  ·obtain⟨t,ht⟩:=bC l hlt
   have hat:=aV (f:=TU.c) ht
   rw[cY ht,eY,FP] at hq
   have hsn:=aO ht
   have hto:((i:Int) - 1).toNat=i - 1:=by omega
   have hl0:i=0→oX (l.take i)=0:=fun h=>by rw[h];rfl
   have hl1:0<i→∃y:TU,(l.map TU.c).getD (i - 1) []=y.c∧oX (l.take i)=y.sq:=fun h=>by
    obtain⟨y,hy⟩:=qP hi h
    refine⟨y,aV hy,?_⟩
    have:=aO hy
    rw[Nat.sub_add_cancel h] at this
    rw[this,pM]
   have hc:=LO t
   obtain⟨last,hlast⟩:∃k,oX (l.take i)=k:=⟨_,rfl⟩
   rw[hlast] at hq hl0 hl1
   obtain⟨ok,hok⟩:∃b,xC t=b:=⟨_,rfl⟩
   have hpos:ok=true→1≤t.sq:=fun h=>Md (hok.trans h)
   rw[hok] at hc hq
   obtain⟨C,c1⟩:∃C:bP,∀ms,C 246 ms=some ⟨[],fun v=>v=.bool ok,none⟩:=⟨lO 246 (.bool ok),fun _=>cM⟩
   by_cases hgood:ok=true∧last<t.sq
   ·obtain⟨rfl,hr⟩:=hgood
    have hp:=hpos rfl
    rw[decide_eq_true hr,Bool.true_and,Bool.true_and] at hq
    rcases Nat.eq_zero_or_pos i with hi0|hi0
    ·repeat' (first|((with_reducible refine aJ mixed ?chk C ?_);(case chk=>decide +kernel))|(with_reducible refine aF (c1 _) hc ?_)|(with_reducible first|(refine wN fun _ hnl=>?_;revert hnl;(repeat refine wS fun _ _=>?_);intro hnl)|refine wE ?_|(refine wK ?_ ?_<;>intro h)|(refine wB ?_ ?_<;>intro h<;>simp only[h]))|simp(maxSteps:=4000000) (disch:=first|decide|assumption|omega|(simp only[wL];omega)) only[go_sem,simprocAttr,FXs,hat,hto])
     all_goals (try (exfalso;omega))
     refine aD (α:=Nat) (fun j=>⟨63,[(4,.int .i64 ((j:Int) - 1)),(3,.int .i64 (i:Int)),(0,.lst 31 (l.map TU.c) tt)],[]⟩) (fun _=>St.none) (fun j=>j≤i∧cQ (l.take i) t.id=cQ (l.take j) t.id) (fun j=>j) (.of (.less ?_ (St.le_refl _)) ⟨i,rfl,rfl,Nat.le_refl _,rfl⟩) ?_
     ·simp(maxSteps:=4000000) (disch:=first|decide|assumption|omega|(simp only[wL];omega)) only[go_sem,simprocAttr,aC,aB]
      all_goals rfl
     ·rintro j ⟨hj,hn⟩
      have htj:((j:Int) - 1).toNat=j - 1:=by omega
      by_cases hj0:0<j
      ·obtain⟨z,hz⟩:∃z,l[j - 1]?=some z:=bC l (by omega)
       have hatz:=aV (f:=TU.c) hz
       have hsz:=aO hz
       rw[Nat.sub_add_cancel hj0] at hsz
       rw[hsz,j0] at hn
       by_cases he:z.id=t.id
       ·rw[if_pos he] at hn
        rw[hn,Option.getD_some] at hq
        by_cases hv:z.new=t.old
        ·rw[decide_eq_true hv,Bool.true_and,←hsn] at hq
         repeat' (first|(with_reducible first|(refine wN fun _ hnl=>?_;revert hnl;(repeat refine wS fun _ _=>?_);intro hnl)|refine wE ?_|(refine wK ?_ ?_<;>intro h)|(refine wB ?_ ?_<;>intro h<;>simp only[h]))|simp(maxSteps:=4000000) (disch:=first|decide|assumption|omega|(simp only[wL];omega)) only[go_sem,simprocAttr,FXs,hat,hatz,htj])
         all_goals (try (exfalso;omega))
         all_goals
          refine .of (.less ?_ (St.none_le _)) ⟨i+1,rfl,rfl,⟨by omega,hq⟩,by omega⟩
          simp(maxSteps:=4000000) (disch:=first|decide|assumption|omega|(simp only[wL];omega)) only[go_sem,simprocAttr,aC,aB]
          all_goals first|rfl|omega
        ·rw[decide_eq_false hv,Bool.false_and] at hq
         subst hq
         repeat' (first|(with_reducible first|(refine wN fun _ hnl=>?_;revert hnl;(repeat refine wS fun _ _=>?_);intro hnl)|refine wE ?_|(refine wK ?_ ?_<;>intro h)|(refine wB ?_ ?_<;>intro h<;>simp only[h]))|simp(maxSteps:=4000000) (disch:=first|decide|assumption|omega|(simp only[wL];omega)) only[go_sem,simprocAttr,FXs,hat,hatz,htj])
         all_goals first|exact⟨_,St.le_refl _,rfl⟩|exact⟨_,St.le_refl _⟩|(exfalso;omega)
       ·rw[if_neg he] at hn
        repeat' (first|(with_reducible first|(refine wN fun _ hnl=>?_;revert hnl;(repeat refine wS fun _ _=>?_);intro hnl)|refine wE ?_|(refine wK ?_ ?_<;>intro h)|(refine wB ?_ ?_<;>intro h<;>simp only[h]))|simp(maxSteps:=4000000) (disch:=first|decide|assumption|omega|(simp only[wL];omega)) only[go_sem,simprocAttr,FXs,hat,hatz,htj])
        all_goals (try (exfalso;omega))
        all_goals
         refine .of (.less ?_ (St.none_le _)) ⟨j - 1,rfl,rfl,⟨by omega,hn⟩,by omega⟩
         simp(maxSteps:=4000000) (disch:=first|decide|assumption|omega|(simp only[wL];omega)) only[go_sem,simprocAttr,aC,aB]
         all_goals first|rfl|omega
      ·have:j=0:=by omega
       subst this
       have hn':cQ (l.take i) t.id=none:=hn
       rw[hn',Option.getD_none,decide_eq_true rfl,Bool.true_and,←hsn] at hq
       repeat' (first|(with_reducible first|(refine wN fun _ hnl=>?_;revert hnl;(repeat refine wS fun _ _=>?_);intro hnl)|refine wE ?_|(refine wK ?_ ?_<;>intro h)|(refine wB ?_ ?_<;>intro h<;>simp only[h]))|simp(maxSteps:=4000000) (disch:=first|decide|assumption|omega|(simp only[wL];omega)) only[go_sem,simprocAttr,FXs])
       all_goals (try (exfalso;omega))
       all_goals
        refine .of (.less ?_ (St.none_le _)) ⟨i+1,rfl,rfl,⟨by omega,hq⟩,by omega⟩
        simp(maxSteps:=4000000) (disch:=first|decide|assumption|omega|(simp only[wL];omega)) only[go_sem,simprocAttr,aC,aB]
        all_goals first|rfl|omega
    ·obtain⟨y,hy,hly⟩:=hl1 hi0
     repeat' (first|((with_reducible refine aJ mixed ?chk C ?_);(case chk=>decide +kernel))|(with_reducible refine aF (c1 _) hc ?_)|(with_reducible first|(refine wN fun _ hnl=>?_;revert hnl;(repeat refine wS fun _ _=>?_);intro hnl)|refine wE ?_|(refine wK ?_ ?_<;>intro h)|(refine wB ?_ ?_<;>intro h<;>simp only[h]))|simp(maxSteps:=4000000) (disch:=first|decide|assumption|omega|(simp only[wL];omega)) only[go_sem,simprocAttr,FXs,hat,hto,hy])
     all_goals (try (exfalso;omega))
     refine aD (α:=Nat) (fun j=>⟨63,[(4,.int .i64 ((j:Int) - 1)),(3,.int .i64 (i:Int)),(0,.lst 31 (l.map TU.c) tt)],[]⟩) (fun _=>St.none) (fun j=>j≤i∧cQ (l.take i) t.id=cQ (l.take j) t.id) (fun j=>j) (.of (.less ?_ (St.le_refl _)) ⟨i,rfl,rfl,Nat.le_refl _,rfl⟩) ?_
     ·simp(maxSteps:=4000000) (disch:=first|decide|assumption|omega|(simp only[wL];omega)) only[go_sem,simprocAttr,aC,aB]
      all_goals rfl
     ·rintro j ⟨hj,hn⟩
      have htj:((j:Int) - 1).toNat=j - 1:=by omega
      by_cases hj0:0<j
      ·obtain⟨z,hz⟩:∃z,l[j - 1]?=some z:=bC l (by omega)
       have hatz:=aV (f:=TU.c) hz
       have hsz:=aO hz
       rw[Nat.sub_add_cancel hj0] at hsz
       rw[hsz,j0] at hn
       by_cases he:z.id=t.id
       ·rw[if_pos he] at hn
        rw[hn,Option.getD_some] at hq
        by_cases hv:z.new=t.old
        ·rw[decide_eq_true hv,Bool.true_and,←hsn] at hq
         repeat' (first|(with_reducible first|(refine wN fun _ hnl=>?_;revert hnl;(repeat refine wS fun _ _=>?_);intro hnl)|refine wE ?_|(refine wK ?_ ?_<;>intro h)|(refine wB ?_ ?_<;>intro h<;>simp only[h]))|simp(maxSteps:=4000000) (disch:=first|decide|assumption|omega|(simp only[wL];omega)) only[go_sem,simprocAttr,FXs,hat,hatz,htj])
         all_goals (try (exfalso;omega))
         all_goals
          refine .of (.less ?_ (St.none_le _)) ⟨i+1,rfl,rfl,⟨by omega,hq⟩,by omega⟩
          simp(maxSteps:=4000000) (disch:=first|decide|assumption|omega|(simp only[wL];omega)) only[go_sem,simprocAttr,aC,aB]
          all_goals first|rfl|omega
        ·rw[decide_eq_false hv,Bool.false_and] at hq
         subst hq
         repeat' (first|(with_reducible first|(refine wN fun _ hnl=>?_;revert hnl;(repeat refine wS fun _ _=>?_);intro hnl)|refine wE ?_|(refine wK ?_ ?_<;>intro h)|(refine wB ?_ ?_<;>intro h<;>simp only[h]))|simp(maxSteps:=4000000) (disch:=first|decide|assumption|omega|(simp only[wL];omega)) only[go_sem,simprocAttr,FXs,hat,hatz,htj])
         all_goals first|exact⟨_,St.le_refl _,rfl⟩|exact⟨_,St.le_refl _⟩|(exfalso;omega)
       ·rw[if_neg he] at hn
        repeat' (first|(with_reducible first|(refine wN fun _ hnl=>?_;revert hnl;(repeat refine wS fun _ _=>?_);intro hnl)|refine wE ?_|(refine wK ?_ ?_<;>intro h)|(refine wB ?_ ?_<;>intro h<;>simp only[h]))|simp(maxSteps:=4000000) (disch:=first|decide|assumption|omega|(simp only[wL];omega)) only[go_sem,simprocAttr,FXs,hat,hatz,htj])
        all_goals (try (exfalso;omega))
        all_goals
         refine .of (.less ?_ (St.none_le _)) ⟨j - 1,rfl,rfl,⟨by omega,hn⟩,by omega⟩
         simp(maxSteps:=4000000) (disch:=first|decide|assumption|omega|(simp only[wL];omega)) only[go_sem,simprocAttr,aC,aB]
         all_goals first|rfl|omega
      ·have:j=0:=by omega
       subst this
       have hn':cQ (l.take i) t.id=none:=hn
       rw[hn',Option.getD_none,decide_eq_true rfl,Bool.true_and,←hsn] at hq
       repeat' (first|(with_reducible first|(refine wN fun _ hnl=>?_;revert hnl;(repeat refine wS fun _ _=>?_);intro hnl)|refine wE ?_|(refine wK ?_ ?_<;>intro h)|(refine wB ?_ ?_<;>intro h<;>simp only[h]))|simp(maxSteps:=4000000) (disch:=first|decide|assumption|omega|(simp only[wL];omega)) only[go_sem,simprocAttr,FXs])
       all_goals (try (exfalso;omega))
       all_goals
        refine .of (.less ?_ (St.none_le _)) ⟨i+1,rfl,rfl,⟨by omega,hq⟩,by omega⟩
        simp(maxSteps:=4000000) (disch:=first|decide|assumption|omega|(simp only[wL];omega)) only[go_sem,simprocAttr,aC,aB]
        all_goals first|rfl|omega
   ·have hf:(ok&&decide (last<t.sq))=false:=by
     cases ok
     ·rfl
     ·rw[Bool.true_and]
      exact decide_eq_false fun h=>hgood ⟨rfl,h⟩
    rw[hf,Bool.false_and,Bool.false_and] at hq
    subst hq
    rcases Nat.eq_zero_or_pos i with hi0|hi0
    ·have:=hl0 hi0
     cases ok
     all_goals
      repeat' (first|((with_reducible refine aJ mixed ?chk C ?_);(case chk=>decide +kernel))|(with_reducible refine aF (c1 _) hc ?_)|(with_reducible first|(refine wN fun _ hnl=>?_;revert hnl;(repeat refine wS fun _ _=>?_);intro hnl)|refine wE ?_|(refine wK ?_ ?_<;>intro h)|(refine wB ?_ ?_<;>intro h<;>simp only[h]))|simp(maxSteps:=4000000) (disch:=first|decide|assumption|omega|(simp only[wL];omega)) only[go_sem,simprocAttr,FXs,hat,hto])
      all_goals first|exact⟨_,St.le_refl _,rfl⟩|exact⟨_,St.le_refl _⟩|(exfalso;simp at hgood;omega)|(exfalso;have:=hpos rfl;simp at hgood;omega)
    ·obtain⟨y,hy,hly⟩:=hl1 hi0
     cases ok
     all_goals
      repeat' (first|((with_reducible refine aJ mixed ?chk C ?_);(case chk=>decide +kernel))|(with_reducible refine aF (c1 _) hc ?_)|(with_reducible first|(refine wN fun _ hnl=>?_;revert hnl;(repeat refine wS fun _ _=>?_);intro hnl)|refine wE ?_|(refine wK ?_ ?_<;>intro h)|(refine wB ?_ ?_<;>intro h<;>simp only[h]))|simp(maxSteps:=4000000) (disch:=first|decide|assumption|omega|(simp only[wL];omega)) only[go_sem,simprocAttr,FXs,hat,hto,hy])
      all_goals first|exact⟨_,St.le_refl _,rfl⟩|exact⟨_,St.le_refl _⟩|(exfalso;simp at hgood;omega)
  ·have:i=l.length:=by omega
   subst this
   rw[List.drop_length,eY] at hq
   rw[hq]
   repeat' (first|(with_reducible first|(refine wN fun _ hnl=>?_;revert hnl;(repeat refine wS fun _ _=>?_);intro hnl)|refine wE ?_|(refine wK ?_ ?_<;>intro h)|(refine wB ?_ ?_<;>intro h<;>simp only[h]))|simp(maxSteps:=4000000) (disch:=first|decide|assumption|omega|(simp only[wL];omega)) only[go_sem,simprocAttr])
   all_goals first|exact⟨_,St.le_refl _,rfl⟩|exact⟨_,St.le_refl _⟩
end

section
set_option maxRecDepth 100000
set_option maxHeartbeats 8000000
theorem nV{α:Type}{l:List α}{i:Nat}{x d:α}(h:l[i]?=some x):l.getD i d=x:=by
 rw[List.getD_eq_getElem?_getD,h];rfl
theorem LU{α:Type}{l:List α}{k i:Nat}{x:α}(h:l[k]?=some x)(hi:i≤k):(l.take (k+1)).drop i=(l.take k).drop i++[x]:=by
 have hk:k<l.length:=(List.getElem?_eq_some_iff.1 h).1
 rw[aO h,List.drop_append_of_le_length (by rw[List.length_take];omega)]
noncomputable def uW(b:BK)(fl:List ND)(m:UInt32)(log:List TU)(i:Nat):Bool :=
 decide (cW (log.getD i tuZ).card m=(log.getD i tuZ).card)&&(decide ((cQ (log.drop (i+1)) (log.getD i tuZ).id)≠none) || decide (nL b fl (log.getD i tuZ).id=(log.getD i tuZ).new))
theorem Cf(b:BK)(fl:List ND)(m:UInt32)(log:List TU):zI b fl m log=(List.range log.length).all (uW b fl m log):=rfl
theorem FD(b:BK)(hb:BkR b)(h3:b.gr.length≤1000000)(h4:∀g,g∈b.gr→g.mem.length≤1000000)(fl:List ND)(tf:Bool)(m:UInt32)(floor:Int)(log:List TU)(hl:log.length≤1000000)(tl:Bool) :
  aA Tryz.prog 78 [.agg b.c,.lst 5 (fl.map ND.c) tf,.int .u32 (m.toNat:Int),.int .i64 floor,.lst 31 (log.map TU.c) tl] St.none (fun r _=>r=.bool (dI b fl m floor log)):=by
 refine aA.bF (aA.body 123 [.tmp 10] Tryz.func78 rfl rfl rfl rfl ?_)
 obtain⟨res,hres⟩:∃z,dI b fl m floor log=z:=⟨_,rfl⟩
 rw[hres]
 unfold dI at hres
 have c1:=qV fl tf
 have c2:=qT m
 have c3:=Je log hl tl
 have hv:=fun(h:bM fl=0) (id:Int)=>Jf b hb h3 h4 fl h tf id
 obtain⟨e,he⟩:∃z,bM fl=z:=⟨_,rfl⟩
 obtain⟨mo,hmo⟩:∃z,decide (m.toNat≤511)=z:=⟨_,rfl⟩
 obtain⟨to,hto⟩:∃z,eY [] log=z:=⟨_,rfl⟩
 rw[he] at c1 hres hv
 rw[hmo] at c2 hres
 rw[hto] at c3 hres
 by_cases h0:e=0∧mo=true∧(0≤floor∧floor≤b.sq∧log.length≤40)∧to=true
 rotate_left
 ·have hf:res=false:=by
   rw[←hres]
   by_cases h1:e=0
   ·by_cases h2:0≤floor∧floor≤b.sq∧log.length≤40
    ·cases mo<;>cases to<;>first|(simp;done)|(exact absurd ⟨h1,rfl,h2,rfl⟩ h0)
    ·rw[decide_eq_false h2];simp
   ·rw[decide_eq_false h1];simp
  subst hf
  clear hres hv hmo hto
  cases mo<;>cases to
  all_goals
   repeat' (first|(with_reducible first|refine up c1 ?_|refine up c2 ?_|refine up c3 ?_)|(with_reducible first|(refine wT ?_;(first|((fail_if_success (have:=nl1));refine wN fun nl1 hnl=>?_)|refine wN fun _ hnl=>?_);revert hnl;(repeat refine wS fun _ _=>?_);intro hnl)|refine wE ?_|(refine wK ?_ ?_<;>intro h)|(refine wB ?_ ?_<;>intro h<;>simp only[h]))|simp(maxSteps:=4000000) (disch:=first|decide|assumption|omega|(simp only[wL];omega)) only[go_sem,simprocAttr,Tryz.f78])
   all_goals first|exact⟨_,St.le_refl _,rfl⟩|exact⟨_,St.le_refl _⟩|(exfalso;simp at h0;omega)|(exfalso;omega)
 ·obtain⟨rfl,rfl,⟨g1,g2,g3⟩,rfl⟩:=h0
  rw[decide_eq_true rfl,decide_eq_true ⟨g1,g2,g3⟩,Bool.true_and,Bool.true_and,Bool.true_and,Bool.true_and] at hres
  have hv:=hv rfl
  have hz0:0<log.length→∃x:TU,(log.map TU.c).getD 0 []=x.c∧log.getD 0 tuZ=x:=fun h=>by
   obtain⟨x,hx⟩:=bC log h
   exact⟨x,aV hx,nV hx⟩
  have hzn:0<log.length→∃x:TU,(log.map TU.c).getD (log.length - 1) []=x.c∧log.getD (log.length - 1) tuZ=x:=fun h=>by
   obtain⟨x,hx⟩:=bC log (show log.length - 1<log.length by omega)
   exact⟨x,aV hx,nV hx⟩
  have hto1:((log.length:Int) - 1).toNat=log.length - 1:=by omega
  rcases Nat.eq_zero_or_pos log.length with hn|hn
  ·have hnil:log=[]:=List.eq_nil_of_length_eq_zero hn
   subst hnil
   have hlo:zI b fl m []=true:=rfl
   rw[hlo,decide_eq_true (fun h=>absurd rfl h)] at hres
   subst hres
   simp only[List.map_nil] at c3 ⊢
   repeat' (first|(with_reducible first|refine up c1 ?_|refine up c2 ?_|refine up c3 ?_)|(with_reducible first|(refine wT ?_;(first|((fail_if_success (have:=nl1));refine wN fun nl1 hnl=>?_)|refine wN fun _ hnl=>?_);revert hnl;(repeat refine wS fun _ _=>?_);intro hnl)|refine wE ?_|(refine wK ?_ ?_<;>intro h)|(refine wB ?_ ?_<;>intro h<;>simp only[h]))|simp(maxSteps:=4000000) (disch:=first|decide|assumption|omega|(simp only[wL];omega)) only[go_sem,simprocAttr,Tryz.f78])
   all_goals (try (exfalso;omega))
   refine aD (α:=Unit) (fun _=>⟨123,[(11,.int .i64 0),(4,.lst 31 [] tl)],[]⟩) (fun _=>St.none) (fun _=>True) (fun _=>0) (.of (.less ?_ (St.none_le _)) ⟨(),rfl,rfl,trivial⟩) ?_
   ·simp(maxSteps:=4000000) (disch:=first|decide|assumption|omega|(simp only[wL];omega)) only[go_sem,simprocAttr,aC,aB]
    all_goals rfl
   ·rintro⟨⟩ -
    repeat' (first|(with_reducible first|(refine wT ?_;(first|((fail_if_success (have:=nl1));refine wN fun nl1 hnl=>?_)|refine wN fun _ hnl=>?_);revert hnl;(repeat refine wS fun _ _=>?_);intro hnl)|refine wE ?_|(refine wK ?_ ?_<;>intro h)|(refine wB ?_ ?_<;>intro h<;>simp only[h]))|simp(maxSteps:=4000000) (disch:=first|decide|assumption|omega|(simp only[wL];omega)) only[go_sem,simprocAttr])
    all_goals first|exact⟨_,St.le_refl _,rfl⟩|exact⟨_,St.le_refl _⟩
  ·obtain⟨x0,hx0,hx0'⟩:=hz0 hn
   obtain⟨xn,hxn,hxn'⟩:=hzn hn
   rw[hx0',hxn'] at hres
   have hne:log≠[]:=fun h=>by rw[h] at hn;exact Nat.lt_irrefl _ hn
   by_cases hbd:floor<x0.sq∧xn.sq≤b.sq
   rotate_left
   ·rw[decide_eq_false (fun h=>hbd (h hne)),Bool.false_and] at hres
    subst hres
    repeat' (first|(with_reducible first|refine up c1 ?_|refine up c2 ?_|refine up c3 ?_)|(with_reducible first|(refine wT ?_;(first|((fail_if_success (have:=nl1));refine wN fun nl1 hnl=>?_)|refine wN fun _ hnl=>?_);revert hnl;(repeat refine wS fun _ _=>?_);intro hnl)|refine wE ?_|(refine wK ?_ ?_<;>intro h)|(refine wB ?_ ?_<;>intro h<;>simp only[h]))|simp(maxSteps:=4000000) (disch:=first|decide|assumption|omega|(simp only[wL];omega)) only[go_sem,simprocAttr,Tryz.f78,FXs,hx0,hxn,hto1])
    all_goals first|exact⟨_,St.le_refl _,rfl⟩|exact⟨_,St.le_refl _⟩|(exfalso;omega)
   ·rw[decide_eq_true (fun _=>hbd),Bool.true_and,Cf] at hres
    obtain⟨b1,b2⟩:=hbd
    repeat' (first|(with_reducible first|refine up c1 ?_|refine up c2 ?_|refine up c3 ?_)|(with_reducible first|(refine wT ?_;(first|((fail_if_success (have:=nl1));refine wN fun nl1 hnl=>?_)|refine wN fun _ hnl=>?_);revert hnl;(repeat refine wS fun _ _=>?_);intro hnl)|refine wE ?_|(refine wK ?_ ?_<;>intro h)|(refine wB ?_ ?_<;>intro h<;>simp only[h]))|simp(maxSteps:=4000000) (disch:=first|decide|assumption|omega|(simp only[wL];omega)) only[go_sem,simprocAttr,Tryz.f78,FXs,hx0,hxn,hto1])
    all_goals (try (exfalso;omega))
    clear c1 c2 c3 hz0 hzn hx0 hxn
    refine aD (α:=Nat) (fun i=>⟨123,[(11,.int .i64 (i:Int)),(5,.ptr nl1 0 0),(1,.lst 5 (fl.map ND.c) tf),(2,.int .u32 (m.toNat:Int)),(4,.lst 31 (log.map TU.c) tl)],[]⟩) (fun _=>St.none.set nl1 (.row 26 5 [b.c])) (fun i=>i≤log.length∧∀j,j<i→uW b fl m log j=true) (fun i=>log.length - i) (.of (.less ?_ (St.le_refl _)) ⟨0,rfl,rfl,Nat.zero_le _,fun j hj=>absurd hj (Nat.not_lt_zero _)⟩) ?_
    ·simp(maxSteps:=4000000) (disch:=first|decide|assumption|omega|(simp only[wL];omega)) only[go_sem,simprocAttr,aC,aB]
     all_goals rfl
    ·rintro i ⟨hi,hall⟩
     by_cases hlt:i<log.length
     ·obtain⟨t,ht⟩:=bC log hlt
      have hat:=aV (f:=TU.c) ht
      have hbad:uW b fl m log i=false→res=false:=fun h=>by
       rw[←hres]
       exact List.all_eq_false.2 ⟨i,List.mem_range.2 hlt,by rw[h];simp⟩
      have hlc:uW b fl m log i=(decide (cW t.card m=t.card)&&(decide (cQ (log.drop (i+1)) t.id≠none) || decide (nL b fl t.id=t.new))):=by
       unfold uW
       rw[nV ht]
      have hpr:=wC t.card m
      have hm:=u4 (cW t.card m) t.card
      obtain⟨pc,hpc⟩:∃z,cW t.card m=z:=⟨_,rfl⟩
      rw[hpc] at hpr hm hlc
      obtain⟨C,c1⟩:∃C:bP,∀ms,C 109 ms=some ⟨[],fun v=>v=.agg pc.c,none⟩:=⟨lO 109 (.agg pc.c),fun _=>cM⟩
      by_cases he:pc=t.card
      rotate_left
      ·rw[decide_eq_false he,Bool.false_and] at hlc
       rw[decide_eq_false he] at hm
       have hf:=hbad hlc
       subst hf
       repeat' (first|((with_reducible refine aJ mixed ?chk C ?_);(case chk=>decide +kernel))|(with_reducible refine aF (c1 _) hpr ?_)|(with_reducible first|(refine wT ?_;(first|((fail_if_success (have:=nl1));refine wN fun nl1 hnl=>?_)|refine wN fun _ hnl=>?_);revert hnl;(repeat refine wS fun _ _=>?_);intro hnl)|refine wE ?_|(refine wK ?_ ?_<;>intro h)|(refine wB ?_ ?_<;>intro h<;>simp only[h]))|simp(maxSteps:=4000000) (disch:=first|decide|assumption|omega|(simp only[wL];omega)) only[go_sem,simprocAttr,FXs,hat,hm])
       all_goals first|exact⟨_,St.le_refl _,rfl⟩|exact⟨_,St.le_refl _⟩|(exfalso;omega)
      ·rw[decide_eq_true he,Bool.true_and] at hlc
       rw[decide_eq_true he] at hm
       have hv:=hv t.id
       obtain⟨vv,hvv⟩:∃z,nL b fl t.id=z:=⟨_,rfl⟩
       rw[hvv] at hv hlc
       repeat' (first|((with_reducible refine aJ mixed ?chk C ?_);(case chk=>decide +kernel))|(with_reducible refine aF (c1 _) hpr ?_)|(with_reducible first|(refine wT ?_;(first|((fail_if_success (have:=nl1));refine wN fun nl1 hnl=>?_)|refine wN fun _ hnl=>?_);revert hnl;(repeat refine wS fun _ _=>?_);intro hnl)|refine wE ?_|(refine wK ?_ ?_<;>intro h)|(refine wB ?_ ?_<;>intro h<;>simp only[h]))|simp(maxSteps:=4000000) (disch:=first|decide|assumption|omega|(simp only[wL];omega)) only[go_sem,simprocAttr,FXs,hat,hm])
       all_goals (try (exfalso;omega))
       refine aD (α:=Nat) (fun k=>⟨123,[(13,.int .i64 (k:Int)),(12,.bool (decide (cQ ((log.take k).drop (i+1)) t.id=none))),(11,.int .i64 (i:Int)),(5,.ptr nl1 0 0),(1,.lst 5 (fl.map ND.c) tf),(2,.int .u32 (m.toNat:Int)),(4,.lst 31 (log.map TU.c) tl)],[]⟩) (fun _=>St.none.set nl1 (.row 26 5 [b.c])) (fun k=>i+1≤k∧k≤log.length) (fun k=>log.length - k) (.of (.less ?_ (St.le_refl _)) ⟨i+1,rfl,rfl,Nat.le_refl _,hlt⟩) ?_
       ·have e0:(log.take (i+1)).drop (i+1)=[]:=List.drop_eq_nil_of_le (by rw[List.length_take];omega)
        rw[e0]
        simp(maxSteps:=4000000) (disch:=first|decide|assumption|omega|(simp only[wL];omega)) only[go_sem,simprocAttr,aC,aB,cQ]
        all_goals first|rfl|(simp[cQ,aB];done)
       ·rintro k ⟨hk1,hk2⟩
        by_cases hkl:k<log.length
        ·obtain⟨z,hz⟩:=bC log hkl
         have hatz:=aV (f:=TU.c) hz
         have hsz:=LU hz hk1
         have hns:=j0 ((log.take k).drop (i+1)) z t.id
         rw[←hsz] at hns
         obtain⟨w,hw⟩:∃w,cQ ((log.take k).drop (i+1)) t.id=w:=⟨_,rfl⟩
         rw[hw] at hns ⊢
         by_cases hid:z.id=t.id
         ·rw[if_pos hid] at hns
          cases w
          all_goals
           repeat' (first|(with_reducible first|(refine wT ?_;(first|((fail_if_success (have:=nl1));refine wN fun nl1 hnl=>?_)|refine wN fun _ hnl=>?_);revert hnl;(repeat refine wS fun _ _=>?_);intro hnl)|refine wE ?_|(refine wK ?_ ?_<;>intro h)|(refine wB ?_ ?_<;>intro h<;>simp only[h]))|simp(maxSteps:=4000000) (disch:=first|decide|assumption|omega|(simp only[wL];omega)) only[go_sem,simprocAttr,FXs,hat,hatz,hid])
           all_goals (try (exfalso;omega))
           all_goals
            refine .of (.less ?_ (St.le_refl _)) ⟨k+1,rfl,rfl,⟨by omega,by omega⟩,by omega⟩
            rw[hns]
            simp(maxSteps:=4000000) (disch:=first|decide|assumption|omega|(simp only[wL];omega)) only[go_sem,simprocAttr,aC,aB]
            all_goals first|rfl|(simp[aB];done)
         ·rw[if_neg hid] at hns
          cases w
          all_goals
           repeat' (first|(with_reducible first|(refine wT ?_;(first|((fail_if_success (have:=nl1));refine wN fun nl1 hnl=>?_)|refine wN fun _ hnl=>?_);revert hnl;(repeat refine wS fun _ _=>?_);intro hnl)|refine wE ?_|(refine wK ?_ ?_<;>intro h)|(refine wB ?_ ?_<;>intro h<;>simp only[h]))|simp(maxSteps:=4000000) (disch:=first|decide|assumption|omega|(simp only[wL];omega)) only[go_sem,simprocAttr,FXs,hat,hatz,hid])
           all_goals (try (exfalso;omega))
           all_goals
            refine .of (.less ?_ (St.le_refl _)) ⟨k+1,rfl,rfl,⟨by omega,by omega⟩,by omega⟩
            rw[hns]
            simp(maxSteps:=4000000) (disch:=first|decide|assumption|omega|(simp only[wL];omega)) only[go_sem,simprocAttr,aC,aB]
            all_goals first|rfl|(simp[aB];done)
        ·have:k=log.length:=by omega
         subst this
         rw[List.take_length]
         obtain⟨D,d1⟩:∃D:bP,∀ms,D 160 ms=some ⟨[],fun v=>v=.int .i64 vv,none⟩:=⟨lO 160 (.int .i64 vv),fun _=>cM⟩
         obtain⟨w,hw⟩:∃w,cQ (log.drop (i+1)) t.id=w:=⟨_,rfl⟩
         rw[hw] at hlc ⊢
         have hgo:uW b fl m log i=true→∀j,j<i+1→uW b fl m log j=true:=fun h j hj=>by
          by_cases hji:j=i
          ·rw[hji];exact h
          ·exact hall j (by omega)
         cases w with
         | some w =>
          rw[decide_eq_true (by simp),Bool.true_or] at hlc
          repeat' (first|((with_reducible refine aJ mixed ?chk D ?_);(case chk=>decide +kernel))|(with_reducible refine aF (d1 _) hv ?_)|(with_reducible first|(refine wT ?_;(first|((fail_if_success (have:=nl1));refine wN fun nl1 hnl=>?_)|refine wN fun _ hnl=>?_);revert hnl;(repeat refine wS fun _ _=>?_);intro hnl)|refine wE ?_|(refine wK ?_ ?_<;>intro h)|(refine wB ?_ ?_<;>intro h<;>simp only[h]))|simp(maxSteps:=4000000) (disch:=first|decide|assumption|omega|(simp only[wL];omega)) only[go_sem,simprocAttr,FXs,hat])
          all_goals (try (exfalso;omega))
          all_goals
           refine .of (.less ?_ (St.le_refl _)) ⟨i+1,rfl,rfl,⟨by omega,hgo hlc⟩,by omega⟩
           simp(maxSteps:=4000000) (disch:=first|decide|assumption|omega|(simp only[wL];omega)) only[go_sem,simprocAttr,aC,aB]
           all_goals first|rfl|(simp[aB];done)
         | none =>
          rw[decide_eq_false (by simp),Bool.false_or] at hlc
          by_cases hvn:vv=t.new
          ·rw[decide_eq_true hvn] at hlc
           repeat' (first|((with_reducible refine aJ mixed ?chk D ?_);(case chk=>decide +kernel))|(with_reducible refine aF (d1 _) hv ?_)|(with_reducible first|(refine wT ?_;(first|((fail_if_success (have:=nl1));refine wN fun nl1 hnl=>?_)|refine wN fun _ hnl=>?_);revert hnl;(repeat refine wS fun _ _=>?_);intro hnl)|refine wE ?_|(refine wK ?_ ?_<;>intro h)|(refine wB ?_ ?_<;>intro h<;>simp only[h]))|simp(maxSteps:=4000000) (disch:=first|decide|assumption|omega|(simp only[wL];omega)) only[go_sem,simprocAttr,FXs,hat])
           all_goals (try (exfalso;omega))
           all_goals
            refine .of (.less ?_ (St.le_refl _)) ⟨i+1,rfl,rfl,⟨by omega,hgo hlc⟩,by omega⟩
            simp(maxSteps:=4000000) (disch:=first|decide|assumption|omega|(simp only[wL];omega)) only[go_sem,simprocAttr,aC,aB]
            all_goals first|rfl|(simp[aB];done)
          ·rw[decide_eq_false hvn] at hlc
           have hf:=hbad hlc
           subst hf
           repeat' (first|((with_reducible refine aJ mixed ?chk D ?_);(case chk=>decide +kernel))|(with_reducible refine aF (d1 _) hv ?_)|(with_reducible first|(refine wT ?_;(first|((fail_if_success (have:=nl1));refine wN fun nl1 hnl=>?_)|refine wN fun _ hnl=>?_);revert hnl;(repeat refine wS fun _ _=>?_);intro hnl)|refine wE ?_|(refine wK ?_ ?_<;>intro h)|(refine wB ?_ ?_<;>intro h<;>simp only[h]))|simp(maxSteps:=4000000) (disch:=first|decide|assumption|omega|(simp only[wL];omega)) only[go_sem,simprocAttr,FXs,hat])
           all_goals first|exact⟨_,St.le_refl _,rfl⟩|exact⟨_,St.le_refl _⟩|(exfalso;omega)
     ·have:i=log.length:=by omega
      subst this
      have ht:(List.range log.length).all (uW b fl m log)=true:=List.all_eq_true.2 fun j hj=>hall j (List.mem_range.1 hj)
      rw[ht] at hres
      subst hres
      repeat' (first|(with_reducible first|(refine wT ?_;(first|((fail_if_success (have:=nl1));refine wN fun nl1 hnl=>?_)|refine wN fun _ hnl=>?_);revert hnl;(repeat refine wS fun _ _=>?_);intro hnl)|refine wE ?_|(refine wK ?_ ?_<;>intro h)|(refine wB ?_ ?_<;>intro h<;>simp only[h]))|simp(maxSteps:=4000000) (disch:=first|decide|assumption|omega|(simp only[wL];omega)) only[go_sem,simprocAttr])
      all_goals first|exact⟨_,St.le_refl _,rfl⟩|exact⟨_,St.le_refl _⟩
end
end Go.Proofs.YtojmhmejdihaaaaGreatDoor
