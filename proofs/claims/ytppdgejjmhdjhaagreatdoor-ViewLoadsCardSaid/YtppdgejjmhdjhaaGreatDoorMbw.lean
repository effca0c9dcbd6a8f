/- Parts of the proof, joined; conditions: those that its theorems name. -/
import Derived.Test.YtppdgejjmhdjhaaGreatDoorMbu
import Derived.Test.YtppdgejjmhdjhaaGreatDoorMbv
set_option linter.unusedVariables false
set_option linter.unusedSimpArgs false
set_option maxHeartbeats 4000000
namespace Go.Proofs.YtppdgejjmhdjhaaGreatDoor
section
set_option maxRecDepth 100000
set_option maxHeartbeats 8000000
theorem nK{α:Type}{l:List α}{i:Nat}{x d:α}(h:l[i]?=some x):l.getD i d=x:=by
 rw[List.getD_eq_getElem?_getD,h];rfl
theorem LF{α:Type}{l:List α}{k i:Nat}{x:α}(h:l[k]?=some x)(hi:i≤k):(l.take (k+1)).drop i=(l.take k).drop i++[x]:=by
 have hk:k<l.length:=(List.getElem?_eq_some_iff.1 h).1
 rw[aV h,List.drop_append_of_le_length (by rw[List.length_take];omega)]
noncomputable def uJ(b:BK)(fl:List ND)(m:UInt32)(log:List TU)(i:Nat):Bool :=
 decide (cC (log.getD i tuZ).card m=(log.getD i tuZ).card)&&(decide ((cJ (log.drop (i+1)) (log.getD i tuZ).id)≠none) || decide (nE b fl (log.getD i tuZ).id=(log.getD i tuZ).new))
theorem Ca(b:BK)(fl:List ND)(m:UInt32)(log:List TU):zB b fl m log=(List.range log.length).all (uJ b fl m log):=rfl
theorem Fw(b:BK)(hb:BkR b)(h3:b.gr.length≤1000000)(h4:∀g,g∈b.gr→g.mem.length≤1000000)(fl:List ND)(tf:Bool)(m:UInt32)(floor:Int)(log:List TU)(hl:log.length≤1000000)(tl:Bool) :
  aA Tryz.prog 46 [.agg b.c,.lst 5 (fl.map ND.c) tf,.int .u32 (m.toNat:Int),.int .i64 floor,.lst 31 (log.map TU.c) tl] St.none (fun r _=>r=.bool (eA b fl m floor log)):=by
 refine aA.bZ (aA.body 123 [.tmp 10] Tryz.func46 rfl rfl rfl rfl ?_)
 obtain⟨res,hres⟩:∃z,eA b fl m floor log=z:=⟨_,rfl⟩
 rw[hres]
 unfold eA at hres
 have c1:=A6 fl tf
 have c2:=A2 m
 have c3:=Je log hl tl
 have hv:=fun(h:bF fl=0) (id:Int)=>Jf b hb h3 h4 fl h tf id
 obtain⟨e,he⟩:∃z,bF fl=z:=⟨_,rfl⟩
 obtain⟨mo,hmo⟩:∃z,decide (m.toNat≤511)=z:=⟨_,rfl⟩
 obtain⟨to,hto⟩:∃z,eR [] log=z:=⟨_,rfl⟩
 rw[he] at c1 hres hv
 rw[hmo] at c2 hres
 rw[hto] at c3 hres
 by_cases h0:e=0∧mo=true∧(0≤floor∧floor≤b.sq∧log.length≤40)∧to=true
 rotate_left
 ·have hf:res=false:=by
   rw[←hres]
   by_cases h1:e=0
   ·by_cases h2:0≤floor∧floor≤b.sq∧log.length≤40
    ·cases mo<;>cases to<;>first|(simp;done)|(exact absurd ⟨h1,rfl,h2,rfl⟩ h0)
    ·rw[decide_eq_false h2];simp
   ·rw[decide_eq_false h1];simp
  subst hf
  clear hres hv hmo hto
  cases mo<;>cases to
  all_goals
   repeat' (first|(with_reducible first|refine up c1 ?_|refine up c2 ?_|refine up c3 ?_)|(with_reducible first|(refine wT ?_;(first|((fail_if_success (have:=nl1));refine wN fun nl1 hnl=>?_)|refine wN fun _ hnl=>?_);revert hnl;(repeat refine wS fun _ _=>?_);intro hnl)|refine wE ?_|(refine wK ?_ ?_<;>intro h)|(refine wB ?_ ?_<;>intro h<;>simp only[h]))|simp(maxSteps:=4000000) (disch:=first|decide|assumption|omega|(simp only[wL];omega)) only[go_sem,simprocAttr,Tryz.f46])
   all_goals first|exact⟨_,St.le_refl _,rfl⟩|exact⟨_,St.le_refl _⟩|(exfalso;simp at h0;omega)|(exfalso;omega)
 ·obtain⟨rfl,rfl,⟨g1,g2,g3⟩,rfl⟩:=h0
  rw[decide_eq_true rfl,decide_eq_true ⟨g1,g2,g3⟩,Bool.true_and,Bool.true_and,Bool.true_and,Bool.true_and] at hres
  have hv:=hv rfl
  have hz0:0<log.length→∃x:TU,(log.map TU.c).getD 0 []=x.c∧log.getD 0 tuZ=x:=fun h=>by
   obtain⟨x,hx⟩:=bI log h
   exact⟨x,bB hx,nK hx⟩
  have hzn:0<log.length→∃x:TU,(log.map TU.c).getD (log.length - 1) []=x.c∧log.getD (log.length - 1) tuZ=x:=fun h=>by
   obtain⟨x,hx⟩:=bI log (show log.length - 1<log.length by omega)
   exact⟨x,bB hx,nK hx⟩
  have hto1:((log.length:Int) - 1).toNat=log.length - 1:=by omega
  rcases Nat.eq_zero_or_pos log.length with hn|hn
  ·have hnil:log=[]:=List.eq_nil_of_length_eq_zero hn
   subst hnil
   have hlo:zB b fl m []=true:=rfl
   rw[hlo,decide_eq_true (fun h=>absurd rfl h)] at hres
   subst hres
   simp only[List.map_nil] at c3 ⊢
   repeat' (first|(with_reducible first|refine up c1 ?_|refine up c2 ?_|refine up c3 ?_)|(with_reducible first|(refine wT ?_;(first|((fail_if_success (have:=nl1));refine wN fun nl1 hnl=>?_)|refine wN fun _ hnl=>?_);revert hnl;(repeat refine wS fun _ _=>?_);intro hnl)|refine wE ?_|(refine wK ?_ ?_<;>intro h)|(refine wB ?_ ?_<;>intro h<;>simp only[h]))|simp(maxSteps:=4000000) (disch:=first|decide|assumption|omega|(simp only[wL];omega)) only[go_sem,simprocAttr,Tryz.f46])
   all_goals (try (exfalso;omega))
   refine aF (α:=Unit) (fun _=>⟨123,[(11,.int .i64 0),(4,.lst 31 [] tl)],[]⟩) (fun _=>St.none) (fun _=>True) (fun _=>0) (.of (.less ?_ (St.none_le _)) ⟨(),rfl,rfl,trivial⟩) ?_
   ·simp(maxSteps:=4000000) (disch:=first|decide|assumption|omega|(simp only[wL];omega)) only[go_sem,simprocAttr,aC,aB]
    all_goals rfl
   ·rintro⟨⟩ -
    repeat' (first|(with_reducible first|(refine wT ?_;(first|((fail_if_success (have:=nl1));refine wN fun nl1 hnl=>?_)|refine wN fun _ hnl=>?_);revert hnl;(repeat refine wS fun _ _=>?_);intro hnl)|refine wE ?_|(refine wK ?_ ?_<;>intro h)|(refine wB ?_ ?_<;>intro h<;>simp only[h]))|simp(maxSteps:=4000000) (disch:=first|decide|assumption|omega|(simp only[wL];omega)) only[go_sem,simprocAttr])
    all_goals first|exact⟨_,St.le_refl _,rfl⟩|exact⟨_,St.le_refl _⟩
  ·obtain⟨x0,hx0,hx0'⟩:=hz0 hn
   obtain⟨xn,hxn,hxn'⟩:=hzn hn
   rw[hx0',hxn'] at hres
   have hne:log≠[]:=fun h=>by rw[h] at hn;exact Nat.lt_irrefl _ hn
   by_cases hbd:floor<x0.sq∧xn.sq≤b.sq
   rotate_left
   ·rw[decide_eq_false (fun h=>hbd (h hne)),Bool.false_and] at hres
    subst hres
    repeat' (first|(with_reducible first|refine up c1 ?_|refine up c2 ?_|refine up c3 ?_)|(with_reducible first|(refine wT ?_;(first|((fail_if_success (have:=nl1));refine wN fun nl1 hnl=>?_)|refine wN fun _ hnl=>?_);revert hnl;(repeat refine wS fun _ _=>?_);intro hnl)|refine wE ?_|(refine wK ?_ ?_<;>intro h)|(refine wB ?_ ?_<;>intro h<;>simp only[h]))|simp(maxSteps:=4000000) (disch:=first|decide|assumption|omega|(simp only[wL];omega)) only[go_sem,simprocAttr,Tryz.f46,FXs,hx0,hxn,hto1])
    all_goals first|exact⟨_,St.le_refl _,rfl⟩|exact⟨_,St.le_refl _⟩|(exfalso;omega)
   ·rw[decide_eq_true (fun _=>hbd),Bool.true_and,Ca] at hres
    obtain⟨b1,b2⟩:=hbd
    repeat' (first|(with_reducible first|refine up c1 ?_|refine up c2 ?_|refine up c3 ?_)|(with_reducible first|(refine wT ?_;(first|((fail_if_success (have:=nl1));refine wN fun nl1 hnl=>?_)|refine wN fun _ hnl=>?_);revert hnl;(repeat refine wS fun _ _=>?_);intro hnl)|refine wE ?_|(refine wK ?_ ?_<;>intro h)|(refine wB ?_ ?_<;>intro h<;>simp only[h]))|simp(maxSteps:=4000000) (disch:=first|decide|assumption|omega|(simp only[wL];omega)) only[go_sem,simprocAttr,Tryz.f46,FXs,hx0,hxn,hto1])
    all_goals (try (exfalso;omega))
    clear c1 c2 c3 hz0 hzn hx0 hxn
    refine aF (α:=Nat) (fun i=>⟨123,[(11,.int .i64 (i:Int)),(5,.ptr nl1 0 0),(1,.lst 5 (fl.map ND.c) tf),(2,.int .u32 (m.toNat:Int)),(4,.lst 31 (log.map TU.c) tl)],[]⟩) (fun _=>St.none.set nl1 (.row 47 5 [b.c])) (fun i=>i≤log.length∧∀j,j<i→uJ b fl m log j=true) (fun i=>log.length - i) (.of (.less ?_ (St.le_refl _)) ⟨0,rfl,rfl,Nat.zero_le _,fun j hj=>absurd hj (Nat.not_lt_zero _)⟩) ?_
    ·simp(maxSteps:=4000000) (disch:=first|decide|assumption|omega|(simp only[wL];omega)) only[go_sem,simprocAttr,aC,aB]
     all_goals rfl
    ·rintro i ⟨hi,hall⟩
     by_cases hlt:i<log.length
     ·obtain⟨t,ht⟩:=bI log hlt
      have hat:=bB (f:=TU.c) ht
      have hbad:uJ b fl m log i=false→res=false:=fun h=>by
       rw[←hres]
       exact List.all_eq_false.2 ⟨i,List.mem_range.2 hlt,by rw[h];simp⟩
      have hlc:uJ b fl m log i=(decide (cC t.card m=t.card)&&(decide (cJ (log.drop (i+1)) t.id≠none) || decide (nE b fl t.id=t.new))):=by
       unfold uJ
       rw[nK ht]
      have hpr:=vY t.card m
      have hm:=Cg (cC t.card m) t.card
      obtain⟨pc,hpc⟩:∃z,cC t.card m=z:=⟨_,rfl⟩
      rw[hpc] at hpr hm hlc
      obtain⟨C,c1⟩:∃C:bR,∀ms,C 92 ms=some ⟨[],fun v=>v=.agg pc.c,none⟩:=⟨tV 92 (.agg pc.c),fun _=>gJ⟩
      by_cases he:pc=t.card
      rotate_left
      ·rw[decide_eq_false he,Bool.false_and] at hlc
       rw[decide_eq_false he] at hm
       have hf:=hbad hlc
       subst hf
       repeat' (first|((with_reducible refine aK mixed ?chk C ?_);(case chk=>decide +kernel))|(with_reducible refine aI (c1 _) hpr ?_)|(with_reducible first|(refine wT ?_;(first|((fail_if_success (have:=nl1));refine wN fun nl1 hnl=>?_)|refine wN fun _ hnl=>?_);revert hnl;(repeat refine wS fun _ _=>?_);intro hnl)|refine wE ?_|(refine wK ?_ ?_<;>intro h)|(refine wB ?_ ?_<;>intro h<;>simp only[h]))|simp(maxSteps:=4000000) (disch:=first|decide|assumption|omega|(simp only[wL];omega)) only[go_sem,simprocAttr,FXs,hat,hm])
       all_goals first|exact⟨_,St.le_refl _,rfl⟩|exact⟨_,St.le_refl _⟩|(exfalso;omega)
      ·rw[decide_eq_true he,Bool.true_and] at hlc
       rw[decide_eq_true he] at hm
       have hv:=hv t.id
       obtain⟨vv,hvv⟩:∃z,nE b fl t.id=z:=⟨_,rfl⟩
       rw[hvv] at hv hlc
       repeat' (first|((with_reducible refine aK mixed ?chk C ?_);(case chk=>decide +kernel))|(with_reducible refine aI (c1 _) hpr ?_)|(with_reducible first|(refine wT ?_;(first|((fail_if_success (have:=nl1));refine wN fun nl1 hnl=>?_)|refine wN fun _ hnl=>?_);revert hnl;(repeat refine wS fun _ _=>?_);intro hnl)|refine wE ?_|(refine wK ?_ ?_<;>intro h)|(refine wB ?_ ?_<;>intro h<;>simp only[h]))|simp(maxSteps:=4000000) (disch:=first|decide|assumption|omega|(simp only[wL];omega)) only[go_sem,simprocAttr,FXs,hat,hm])
       all_goals (try (exfalso;omega))
       refine aF (α:=Nat) (fun k=>⟨123,[(13,.int .i64 (k:Int)),(12,.bool (decide (cJ ((log.take k).drop (i+1)) t.id=none))),(11,.int .i64 (i:Int)),(5,.ptr nl1 0 0),(1,.lst 5 (fl.map ND.c) tf),(2,.int .u32 (m.toNat:Int)),(4,.lst 31 (log.map TU.c) tl)],[]⟩) (fun _=>St.none.set nl1 (.row 47 5 [b.c])) (fun k=>i+1≤k∧k≤log.length) (fun k=>log.length - k) (.of (.less ?_ (St.le_refl _)) ⟨i+1,rfl,rfl,Nat.le_refl _,hlt⟩) ?_
       ·have e0:(log.take (i+1)).drop (i+1)=[]:=List.drop_eq_nil_of_le (by rw[List.length_take];omega)
        rw[e0]
        simp(maxSteps:=4000000) (disch:=first|decide|assumption|omega|(simp only[wL];omega)) only[go_sem,simprocAttr,aC,aB,cJ]
        all_goals first|rfl|(simp[cJ,aB];done)
       ·rintro k ⟨hk1,hk2⟩
        by_cases hkl:k<log.length
        ·obtain⟨z,hz⟩:=bI log hkl
         have hatz:=bB (f:=TU.c) hz
         have hsz:=LF hz hk1
         have hns:=jS ((log.take k).drop (i+1)) z t.id
         rw[←hsz] at hns
         obtain⟨w,hw⟩:∃w,cJ ((log.take k).drop (i+1)) t.id=w:=⟨_,rfl⟩
         rw[hw] at hns ⊢
         by_cases hid:z.id=t.id
         ·rw[if_pos hid] at hns
          cases w
          all_goals
           repeat' (first|(with_reducible first|(refine wT ?_;(first|((fail_if_success (have:=nl1));refine wN fun nl1 hnl=>?_)|refine wN fun _ hnl=>?_);revert hnl;(repeat refine wS fun _ _=>?_);intro hnl)|refine wE ?_|(refine wK ?_ ?_<;>intro h)|(refine wB ?_ ?_<;>intro h<;>simp only[h]))|simp(maxSteps:=4000000) (disch:=first|decide|assumption|omega|(simp only[wL];omega)) only[go_sem,simprocAttr,FXs,hat,hatz,hid])
           all_goals (try (exfalso;omega))
           all_goals
            refine .of (.less ?_ (St.le_refl _)) ⟨k+1,rfl,rfl,⟨by omega,by omega⟩,by omega⟩
            rw[hns]
            simp(maxSteps:=4000000) (disch:=first|decide|assumption|omega|(simp only[wL];omega)) only[go_sem,simprocAttr,aC,aB]
            all_goals first|rfl|(simp[aB];done)
         ·rw[if_neg hid] at hns
          cases w
          all_goals
           repeat' (first|(with_reducible first|(refine wT ?_;(first|((fail_if_success (have:=nl1));refine wN fun nl1 hnl=>?_)|refine wN fun _ hnl=>?_);revert hnl;(repeat refine wS fun _ _=>?_);intro hnl)|refine wE ?_|(refine wK ?_ ?_<;>intro h)|(refine wB ?_ ?_<;>intro h<;>simp only[h]))|simp(maxSteps:=4000000) (disch:=first|decide|assumption|omega|(simp only[wL];omega)) only[go_sem,simprocAttr,FXs,hat,hatz,hid])
           all_goals (try (exfalso;omega))
           all_goals
            refine .of (.less ?_ (St.le_refl _)) ⟨k+1,rfl,rfl,⟨by omega,by omega⟩,by omega⟩
            rw[hns]
            simp(maxSteps:=4000000) (disch:=first|decide|assumption|omega|(simp only[wL];omega)) only[go_sem,simprocAttr,aC,aB]
            all_goals first|rfl|(simp[aB];done)
        ·have:k=log.length:=by omega
         subst this
         rw[List.take_length]
         obtain⟨D,d1⟩:∃D:bR,∀ms,D 117 ms=some ⟨[],fun v=>v=.int .i64 vv,none⟩:=⟨tV 117 (.int .i64 vv),fun _=>gJ⟩
         obtain⟨w,hw⟩:∃w,cJ (log.drop (i+1)) t.id=w:=⟨_,rfl⟩
         rw[hw] at hlc ⊢
         have hgo:uJ b fl m log i=true→∀j,j<i+1→uJ b fl m log j=true:=fun h j hj=>by
          by_cases hji:j=i
          ·rw[hji];exact h
          ·exact hall j (by omega)
         cases w with
         | some w =>
          rw[decide_eq_true (by simp),Bool.true_or] at hlc
          repeat' (first|((with_reducible refine aK mixed ?chk D ?_);(case chk=>decide +kernel))|(with_reducible refine aI (d1 _) hv ?_)|(with_reducible first|(refine wT ?_;(first|((fail_if_success (have:=nl1));refine wN fun nl1 hnl=>?_)|refine wN fun _ hnl=>?_);revert hnl;(repeat refine wS fun _ _=>?_);intro hnl)|refine wE ?_|(refine wK ?_ ?_<;>intro h)|(refine wB ?_ ?_<;>intro h<;>simp only[h]))|simp(maxSteps:=4000000) (disch:=first|decide|assumption|omega|(simp only[wL];omega)) only[go_sem,simprocAttr,FXs,hat])
          all_goals (try (exfalso;omega))
          all_goals
           refine .of (.less ?_ (St.le_refl _)) ⟨i+1,rfl,rfl,⟨by omega,hgo hlc⟩,by omega⟩
           simp(maxSteps:=4000000) (disch:=first|decide|assumption|omega|(simp only[wL];omega)) only[go_sem,simprocAttr,aC,aB]
           all_goals first|rfl|(simp[aB];done)
         | none =>
          rw[decide_eq_false (by simp),Bool.false_or] at hlc
          by_cases hvn:vv=t.new
          ·rw[decide_eq_true hvn] at hlc
           repeat' (first|((with_reducible refine aK mixed ?chk D ?_);(case chk=>decide +kernel))|(with_reducible refine aI (d1 _) hv ?_)|(with_reducible first|(refine wT ?_;(first|((fail_if_success (have:=nl1));refine wN fun nl1 hnl=>?_)|refine wN fun _ hnl=>?_);revert hnl;(repeat refine wS fun _ _=>?_);intro hnl)|refine wE ?_|(refine wK ?_ ?_<;>intro h)|(refine wB ?_ ?_<;>intro h<;>simp only[h]))|simp(maxSteps:=4000000) (disch:=first|decide|assumption|omega|(simp only[wL];omega)) only[go_sem,simprocAttr,FXs,hat])
           all_goals (try (exfalso;omega))
           all_goals
            refine .of (.less ?_ (St.le_refl _)) ⟨i+1,rfl,rfl,⟨by omega,hgo hlc⟩,by omega⟩
            simp(maxSteps:=4000000) (disch:=first|decide|assumption|omega|(simp only[wL];omega)) only[go_sem,simprocAttr,aC,aB]
            all_goals first|rfl|(simp[aB];done)
          ·rw[decide_eq_false hvn] at hlc
           have hf:=hbad hlc
           subst hf
           repeat' (first|((with_reducible refine aK mixed ?chk D ?_);(case chk=>decide +kernel))|(with_reducible refine aI (d1 _) hv ?_)|(with_reducible first|(refine wT ?_;(first|((fail_if_success (have:=nl1));refine wN fun nl1 hnl=>?_)|refine wN fun _ hnl=>?_);revert hnl;(repeat refine wS fun _ _=>?_);intro hnl)|refine wE ?_|(refine wK ?_ ?_<;>intro h)|(refine wB ?_ ?_<;>intro h<;>simp only[h]))|simp(maxSteps:=4000000) (disch:=first|decide|assumption|omega|(simp only[wL];omega)) only[go_sem,simprocAttr,FXs,hat])
           all_goals first|exact⟨_,St.le_refl _,rfl⟩|exact⟨_,St.le_refl _⟩|(exfalso;omega)
     ·have:i=log.length:=by omega
      subst this
      have ht:(List.range log.length).all (uJ b fl m log)=true:=List.all_eq_true.2 fun j hj=>hall j (List.mem_range.1 hj)
      rw[ht] at hres
      subst hres
      repeat' (first|(with_reducible first|(refine wT ?_;(first|((fail_if_success (have:=nl1));refine wN fun nl1 hnl=>?_)|refine wN fun _ hnl=>?_);revert hnl;(repeat refine wS fun _ _=>?_);intro hnl)|refine wE ?_|(refine wK ?_ ?_<;>intro h)|(refine wB ?_ ?_<;>intro h<;>simp only[h]))|simp(maxSteps:=4000000) (disch:=first|decide|assumption|omega|(simp only[wL];omega)) only[go_sem,simprocAttr])
      all_goals first|exact⟨_,St.le_refl _,rfl⟩|exact⟨_,St.le_refl _⟩
end

section
set_option maxRecDepth 100000
set_option maxHeartbeats 8000000
def SuF(l:List SU):Prop:=∀x,x∈l→x.fl.length≤1000000∧x.mem.length≤1000000∧x.log.length≤1000000
theorem DL{b:BK}{fl:List ND}{m:UInt32}{floor:Int}{log:List TU}(h:eA b fl m floor log=true):bF fl=0:=by
 unfold eA at h
 simp only[Bool.and_eq_true,decide_eq_true_eq] at h
 exact h.1.1.1.1.1
end

section
set_option maxRecDepth 100000
set_option maxHeartbeats 8000000
structure SaF (s:SA):Prop where
 nc:s.bk.cards.length≤1000000
 nd:s.bk.dead.length≤1000000
 ng:s.bk.gr.length≤1000000
 nm:∀g,g∈s.bk.gr→g.mem.length≤1000000
 ns:s.subs.length≤1000000
 sf:SuF s.subs
 nr:s.rows.length≤1000000
 nf:∀r,r∈s.rows→r.ans.fl.length≤1000000
end

section
set_option maxRecDepth 100000
set_option maxHeartbeats 8000000
theorem vH(l:List ND)(hl:l.length≤1000000)(tt:Bool)(h:bF l=0):aA Tryz.prog 62 [.lst 5 (l.map ND.c) tt] St.none (fun v σ'=>∃q,v=.ptr q 0 0∧σ'=St.none.set q (flO (.lst 5 (l.map ND.c) false) 0 0 .nilfn)):=by
 refine(aA.body 10 [.tmp 2] Tryz.func62 rfl rfl rfl rfl ?_)
 have c1:=qA l hl tt
 have c2:=Bu l hl tt
 rw[h] at c1
 repeat' (first|(with_reducible first|refine up c1 ?_|refine up c2 ?_)|(with_reducible first|(refine wN fun _ hnl=>?_;revert hnl;(repeat refine wS fun _ _=>?_);intro hnl)|refine wE ?_|(refine wK ?_ ?_<;>intro h)|(refine wB ?_ ?_<;>intro h<;>simp only[h]))|simp(maxSteps:=4000000) (disch:=first|decide|assumption|omega|(simp only[wL];omega)) only[go_sem,simprocAttr,Tryz.f62])
 all_goals exact⟨_,rfl,rfl⟩
theorem IZ(l:List ND)(hl:l.length≤1000000)(tt:Bool)(h:bF l≠0):aA Tryz.prog 62 [.lst 5 (l.map ND.c) tt] St.none (fun v _=>v=.nilp):=by
 refine(aA.body 10 [.tmp 2] Tryz.func62 rfl rfl rfl rfl ?_)
 have c1:=qA l hl tt
 obtain⟨e,he⟩:∃z,bF l=z:=⟨_,rfl⟩
 rw[he] at c1 h
 repeat' (first|(with_reducible first|refine up c1 ?_)|(with_reducible first|(refine wN fun _ hnl=>?_;revert hnl;(repeat refine wS fun _ _=>?_);intro hnl)|refine wE ?_|(refine wK ?_ ?_<;>intro h)|(refine wB ?_ ?_<;>intro h<;>simp only[h]))|simp(maxSteps:=4000000) (disch:=first|decide|assumption|omega|(simp only[wL];omega)) only[go_sem,simprocAttr,Tryz.f62])
theorem zN(l:List Int)(tt:Bool)(hl:l.length≤1000000):aA Tryz.prog 189 [.lst 1 (l.map aP) tt] St.none (fun r _=>r=.bool (fL 0 l)):=by
 refine aA.bZ (aA.body 21 [.tmp 2] Tryz.func189 rfl rfl rfl rfl ?_)
 obtain⟨res,hres⟩:∃z,fL 0 l=z:=⟨_,rfl⟩
 rw[hres]
 repeat' (first|(with_reducible first|(refine wN fun _ hnl=>?_;revert hnl;(repeat refine wS fun _ _=>?_);intro hnl)|refine wE ?_|(refine wK ?_ ?_<;>intro h)|(refine wB ?_ ?_<;>intro h<;>simp only[h]))|simp(maxSteps:=4000000) (disch:=first|decide|assumption|omega|(simp only[wL];omega)) only[go_sem,simprocAttr,Tryz.f189])
 refine aF (α:=Nat) (fun i=>⟨21,[(8,.int .i64 (i:Int)),(7,.int .i64 (l.length:Int)),(6,.lst 1 (l.map aP) tt),(3,.int .i64 (cD l i 0))],[]⟩) (fun _=>St.none) (fun i=>i≤l.length∧0≤cD l i 0∧res=fL (cD l i 0) (l.drop i)) (fun i=>l.length - i) (.of (.less ?_ (St.le_refl _)) ⟨0,rfl,rfl,Nat.zero_le _,Int.le_refl _,hres.symm⟩) ?_
 ·simp(maxSteps:=4000000) (disch:=first|decide|assumption|omega|(simp only[wL];omega)) only[go_sem,simprocAttr,aC,aB]
  all_goals rfl
 ·rintro i ⟨hi,hp,hq⟩
  by_cases hlt:i<l.length
  ·obtain⟨x,hx⟩:=bI l hlt
   rw[dT hx,fL] at hq
   have hat:=bB (f:=aP) hx
   have hnext:=fU hx (z:=0)
   obtain⟨last,hlast⟩:∃k,cD l i 0=k:=⟨_,rfl⟩
   rw[hlast] at hq hp ⊢
   unfold eU at hq
   by_cases hr:last<x∧1≤x∧x<1073741824
   ·rw[decide_eq_true hr,Bool.true_and] at hq
    obtain⟨hr1,hr2,hr3⟩:=hr
    repeat' (first|(with_reducible first|(refine wN fun _ hnl=>?_;revert hnl;(repeat refine wS fun _ _=>?_);intro hnl)|refine wE ?_|(refine wK ?_ ?_<;>intro h)|(refine wB ?_ ?_<;>intro h<;>simp only[h]))|simp(maxSteps:=4000000) (disch:=first|decide|assumption|omega|(simp only[wL];omega)) only[go_sem,simprocAttr,hat])
    all_goals (try (exfalso;omega))
    all_goals
     refine .of (.less ?_ (St.none_le _)) ⟨i+1,rfl,rfl,⟨by omega,by rw[hnext];omega,by rw[hnext];exact hq⟩,by omega⟩
     rw[hnext]
     simp(maxSteps:=4000000) (disch:=first|decide|assumption|omega|(simp only[wL];omega)) only[go_sem,simprocAttr,aC,aB]
     all_goals rfl
   ·rw[decide_eq_false hr,Bool.false_and] at hq
    subst hq
    repeat' (first|(with_reducible first|(refine wN fun _ hnl=>?_;revert hnl;(repeat refine wS fun _ _=>?_);intro hnl)|refine wE ?_|(refine wK ?_ ?_<;>intro h)|(refine wB ?_ ?_<;>intro h<;>simp only[h]))|simp(maxSteps:=4000000) (disch:=first|decide|assumption|omega|(simp only[wL];omega)) only[go_sem,simprocAttr,hat])
    all_goals first|exact⟨_,St.le_refl _,rfl⟩|exact⟨_,St.le_refl _⟩|(exfalso;omega)
  ·have:i=l.length:=by omega
   subst this
   rw[List.drop_length,fL] at hq
   rw[hq]
   repeat' (first|(with_reducible first|(refine wN fun _ hnl=>?_;revert hnl;(repeat refine wS fun _ _=>?_);intro hnl)|refine wE ?_|(refine wK ?_ ?_<;>intro h)|(refine wB ?_ ?_<;>intro h<;>simp only[h]))|simp(maxSteps:=4000000) (disch:=first|decide|assumption|omega|(simp only[wL];omega)) only[go_sem,simprocAttr])
   all_goals first|exact⟨_,St.le_refl _,rfl⟩|exact⟨_,St.le_refl _⟩
theorem I0(l:List GR)(tt:Bool)(hl:l.length≤1000000)(hm:∀g,g∈l→g.mem.length≤1000000):aA Tryz.prog 112 [.lst 2 (l.map GR.c) tt] St.none (fun r _=>r=.bool (dK (-1) l)):=by
 refine aA.bZ (aA.body 30 [.tmp 2] Tryz.func112 rfl rfl rfl rfl ?_)
 obtain⟨res,hres⟩:∃z,dK (-1) l=z:=⟨_,rfl⟩
 rw[hres]
 repeat' (first|(with_reducible first|(refine wN fun _ hnl=>?_;revert hnl;(repeat refine wS fun _ _=>?_);intro hnl)|refine wE ?_|(refine wK ?_ ?_<;>intro h)|(refine wB ?_ ?_<;>intro h<;>simp only[h]))|simp(maxSteps:=4000000) (disch:=first|decide|assumption|omega|(simp only[wL];omega)) only[go_sem,simprocAttr,Tryz.f112])
 refine aF (α:=Nat) (fun i=>⟨30,[(8,.int .i64 (i:Int)),(7,.int .i64 (l.length:Int)),(6,.lst 2 (l.map GR.c) tt),(3,.int .i64 (cD (l.map GR.no) i (-1)))],[]⟩) (fun _=>St.none) (fun i=>i≤l.length∧-1≤cD (l.map GR.no) i (-1)∧res=dK (cD (l.map GR.no) i (-1)) (l.drop i)) (fun i=>l.length - i) (.of (.less ?_ (St.le_refl _)) ⟨0,rfl,rfl,Nat.zero_le _,Int.le_refl _,hres.symm⟩) ?_
 ·simp(maxSteps:=4000000) (disch:=first|decide|assumption|omega|(simp only[wL];omega)) only[go_sem,simprocAttr,aC,aB]
  all_goals rfl
 ·rintro i ⟨hi,hp,hq⟩
  by_cases hlt:i<l.length
  ·obtain⟨x,hx⟩:=bI l hlt
   rw[dT hx,dK] at hq
   have hat:=bB (f:=GR.c) hx
   have hnext:=fU (gY (f:=GR.no) hx) (z:=-1)
   have hc:=zN x.mem false (hm x (cZ hx))
   obtain⟨last,hlast⟩:∃k,cD (l.map GR.no) i (-1)=k:=⟨_,rfl⟩
   rw[hlast] at hq hp ⊢
   obtain⟨ok,hok⟩:∃b,fL 0 x.mem=b:=⟨_,rfl⟩
   rw[hok] at hc hq
   by_cases hr:last<x.no∧0≤x.no∧x.no<16
   ·rw[decide_eq_true hr,Bool.true_and] at hq
    obtain⟨hr1,hr2,hr3⟩:=hr
    cases ok
    ·rw[Bool.false_and] at hq
     subst hq
     repeat' (first|(with_reducible first|refine up hc ?_)|(with_reducible first|(refine wN fun _ hnl=>?_;revert hnl;(repeat refine wS fun _ _=>?_);intro hnl)|refine wE ?_|(refine wK ?_ ?_<;>intro h)|(refine wB ?_ ?_<;>intro h<;>simp only[h]))|simp(maxSteps:=4000000) (disch:=first|decide|assumption|omega|(simp only[wL];omega)) only[go_sem,simprocAttr,hat])
     all_goals first|exact⟨_,St.le_refl _,rfl⟩|exact⟨_,St.le_refl _⟩|(exfalso;omega)
    ·rw[Bool.true_and] at hq
     repeat' (first|(with_reducible first|refine up hc ?_)|(with_reducible first|(refine wN fun _ hnl=>?_;revert hnl;(repeat refine wS fun _ _=>?_);intro hnl)|refine wE ?_|(refine wK ?_ ?_<;>intro h)|(refine wB ?_ ?_<;>intro h<;>simp only[h]))|simp(maxSteps:=4000000) (disch:=first|decide|assumption|omega|(simp only[wL];omega)) only[go_sem,simprocAttr,hat])
     all_goals (try (exfalso;omega))
     all_goals
      refine .of (.less ?_ (St.none_le _)) ⟨i+1,rfl,rfl,⟨by omega,by rw[hnext];omega,by rw[hnext];exact hq⟩,by omega⟩
      rw[hnext]
      simp(maxSteps:=4000000) (disch:=first|decide|assumption|omega|(simp only[wL];omega)) only[go_sem,simprocAttr,aC,aB]
      all_goals rfl
   ·rw[decide_eq_false hr,Bool.false_and,Bool.false_and] at hq
    subst hq
    repeat' (first|(with_reducible first|refine up hc ?_)|(with_reducible first|(refine wN fun _ hnl=>?_;revert hnl;(repeat refine wS fun _ _=>?_);intro hnl)|refine wE ?_|(refine wK ?_ ?_<;>intro h)|(refine wB ?_ ?_<;>intro h<;>simp only[h]))|simp(maxSteps:=4000000) (disch:=first|decide|assumption|omega|(simp only[wL];omega)) only[go_sem,simprocAttr,hat])
    all_goals first|exact⟨_,St.le_refl _,rfl⟩|exact⟨_,St.le_refl _⟩|(exfalso;omega)
  ·have:i=l.length:=by omega
   subst this
   rw[List.drop_length,dK] at hq
   rw[hq]
   repeat' (first|(with_reducible first|(refine wN fun _ hnl=>?_;revert hnl;(repeat refine wS fun _ _=>?_);intro hnl)|refine wE ?_|(refine wK ?_ ?_<;>intro h)|(refine wB ?_ ?_<;>intro h<;>simp only[h]))|simp(maxSteps:=4000000) (disch:=first|decide|assumption|omega|(simp only[wL];omega)) only[go_sem,simprocAttr])
   all_goals first|exact⟨_,St.le_refl _,rfl⟩|exact⟨_,St.le_refl _⟩
theorem Dv(d:DE)(id:Int):aA Tryz.prog 222 [.agg d.c,.cptr [.int .i64 id]] St.none (fun r _=>r=.bool (decide (d.id=id))):=by
 refine aA.bZ (aA.body 8 [.tmp 3] Tryz.func222 rfl rfl rfl rfl ?_)
 repeat' (first|(with_reducible first|(refine wN fun _ hnl=>?_;revert hnl;(repeat refine wS fun _ _=>?_);intro hnl)|refine wE ?_|(refine wK ?_ ?_<;>intro h)|(refine wB ?_ ?_<;>intro h<;>simp only[h]))|simp(maxSteps:=4000000) (disch:=first|decide|assumption|omega|(simp only[wL];omega)) only[go_sem,simprocAttr,Tryz.f222])
 all_goals first|exact⟨_,St.le_refl _,rfl⟩|exact⟨_,St.le_refl _⟩
theorem BX(l:List DE)(hl:l.length≤1000000)(t:Bool)(id:Int) :
  aA Tryz.prog 271 [.lst 3 (l.map DE.c) t,.fn (.func 222) [] [.cptr [.int .i64 id]]] St.none (fun r _=>r=.int .i64 (fW (l.map DE.id) id)):=by
 refine aA.bZ (aA.body 19 [.tmp 4] Tryz.func271 rfl rfl rfl rfl ?_)
 repeat' (first|(with_reducible first|(refine wN fun _ hnl=>?_;revert hnl;(repeat refine wS fun _ _=>?_);intro hnl)|refine wE ?_|(refine wK ?_ ?_<;>intro h)|(refine wB ?_ ?_<;>intro h<;>simp only[h]))|simp(maxSteps:=4000000) (disch:=first|decide|assumption|omega|(simp only[wL];omega)) only[go_sem,simprocAttr,Tryz.f271])
 refine aF (α:=Nat) (fun k=>⟨19,[(8,.int .i64 (k:Int)),(7,.int .i64 (l.length:Int)),(6,.lst 3 (l.map DE.c) t),(0,.lst 3 (l.map DE.c) t),(1,.fn (.func 222) [] [.cptr [.int .i64 id]])],[]⟩) (fun _=>St.none)
  (fun k=>k≤l.length∧id∉(l.take k).map DE.id) (fun k=>l.length - k) (.of (.less ?_ (St.le_refl _)) ⟨0,rfl,rfl,Nat.zero_le _,by simp⟩) ?_
 ·simp(maxSteps:=4000000) (disch:=first|decide|assumption|omega|(simp only[wL];omega)) only[go_sem,simprocAttr,aC,aB]
  all_goals rfl
 ·rintro k ⟨h1,h2⟩
  by_cases hk:k<l.length
  ·obtain⟨d,hd⟩:=bI l hk
   have hat:=bB (f:=DE.c) hd
   have hc:=Dv d id
   by_cases he:d.id=id
   ·rw[decide_eq_true he] at hc
    have hi':=J8 (gY (f:=DE.id) hd) (by rw[he,←List.map_take];exact h2)
    have hm:=cZ (gY (f:=DE.id) hd)
    rw[he] at hi' hm
    have hp:fW (l.map DE.id) id=k:=by unfold fW;rw[if_pos hm,hi']
    rw[hp]
    repeat' (first|(with_reducible first|refine up hc ?_)|(with_reducible first|(refine wN fun _ hnl=>?_;revert hnl;(repeat refine wS fun _ _=>?_);intro hnl)|refine wE ?_|(refine wK ?_ ?_<;>intro h)|(refine wB ?_ ?_<;>intro h<;>simp only[h]))|simp(maxSteps:=4000000) (disch:=first|decide|assumption|omega|(simp only[wL];omega)) only[go_sem,simprocAttr,hat])
    all_goals first|exact⟨_,St.le_refl _,rfl⟩|exact⟨_,St.le_refl _⟩
   ·rw[decide_eq_false he] at hc
    repeat' (first|(with_reducible first|refine up hc ?_)|(with_reducible first|(refine wN fun _ hnl=>?_;revert hnl;(repeat refine wS fun _ _=>?_);intro hnl)|refine wE ?_|(refine wK ?_ ?_<;>intro h)|(refine wB ?_ ?_<;>intro h<;>simp only[h]))|simp(maxSteps:=4000000) (disch:=first|decide|assumption|omega|(simp only[wL];omega)) only[go_sem,simprocAttr,hat])
    refine .of (.less ?_ (St.le_refl _)) ⟨k+1,rfl,rfl,⟨by omega,?_⟩,by omega⟩
    ·simp(maxSteps:=4000000) (disch:=first|decide|assumption|omega|(simp only[wL];omega)) only[go_sem,simprocAttr,aC,aB]
     all_goals rfl
    ·rw[aV hd,List.map_append,List.mem_append]
     simpa using⟨by simpa using h2,Ne.symm he⟩
  ·have:k=l.length:=by omega
   subst this
   rw[List.take_length] at h2
   have hp:fW (l.map DE.id) id = -1:=by unfold fW;rw[if_neg h2]
   rw[hp]
   repeat' (first|(with_reducible first|(refine wN fun _ hnl=>?_;revert hnl;(repeat refine wS fun _ _=>?_);intro hnl)|refine wE ?_|(refine wK ?_ ?_<;>intro h)|(refine wB ?_ ?_<;>intro h<;>simp only[h]))|simp(maxSteps:=4000000) (disch:=first|decide|assumption|omega|(simp only[wL];omega)) only[go_sem,simprocAttr])
   all_goals first|exact⟨_,St.le_refl _,rfl⟩|exact⟨_,St.le_refl _⟩
theorem tP(l:List DE)(hl:l.length≤1000000)(t:Bool)(id:Int) :
  aA Tryz.prog 221 [.lst 3 (l.map DE.c) t,.fn (.func 222) [] [.cptr [.int .i64 id]]] St.none (fun r _=>r=.bool (decide (id∈l.map DE.id))):=by
 refine aA.bZ (aA.body 9 [.tmp 4] Tryz.func221 rfl rfl rfl rfl ?_)
 have hi:=BX l hl t id
 have hn:=vJ (l:=l.map DE.id) (x:=id)
 obtain⟨k,hk⟩:∃k,fW (l.map DE.id) id=k:=⟨_,rfl⟩
 rw[hk] at hi hn
 have e:decide (id∈l.map DE.id)=decide (0≤k):=decide_eq_decide.mpr ⟨fun h=>by
  have:¬k<0:=fun h'=>(hn ▸ h') h
  omega,fun h=>Classical.not_not.1 fun h'=>by
  have:k<0:=hn ▸ h'
  omega⟩
 rw[e]
 repeat' (first|(with_reducible first|refine up hi ?_)|(with_reducible first|(refine wN fun _ hnl=>?_;revert hnl;(repeat refine wS fun _ _=>?_);intro hnl)|refine wE ?_|(refine wK ?_ ?_<;>intro h)|(refine wB ?_ ?_<;>intro h<;>simp only[h]))|simp(maxSteps:=4000000) (disch:=first|decide|assumption|omega|(simp only[wL];omega)) only[go_sem,simprocAttr,Tryz.f221])
 all_goals first|exact⟨_,St.le_refl _,rfl⟩|exact⟨_,St.le_refl _⟩|(refine⟨_,St.le_refl _,?_⟩;simp[*])
end

section
set_option maxRecDepth 100000
set_option maxHeartbeats 8000000
def fT(cs:List CA)(ds:List DE)(id:Int):CA × Int :=
 match cs.find? (fun c=>decide (c.id=id)) with
 | some c=>(c,0)
 | none=>(ca0,if id∈ds.map DE.id then 9 else 6)
theorem yW{id:Int}:∀cs:List CA,cB id (cEs cs)=(cs.find? fun c=>decide (c.id=id)).map fun c=>.agg c.c
 | []=>rfl
 | c::cs=>by
  have ih:=yW (id:=id) cs
  simp only[cEs,List.map_cons,cB,List.find?_cons] at ih ⊢
  by_cases h:c.id=id
  ·simp[h]
  ·simp[h,ih]
abbrev shS(nx:Int)(m l q:Nat)(cs:List CA)(ds:List DE)(ex:List (List MV)):St:=((St.none.set m (.mp (cEs cs))).set l (shO nx m (.vec 3 q 0 ds.length))).set q (.row 197 3 (ds.map DE.c++ex))
theorem pE(nx:Int){m l q:Nat}(hlm:l≠m)(hqm:q≠m)(hql:q≠l)(cs:List CA)(ds:List DE)(hd:ds.length≤1000000)(ex:List (List MV))(id:Int) :
  aA Tryz.prog 151 [.ptr l 0 0,.int .i64 id] (shS nx m l q cs ds ex) (fun v σ'=>v=.tup [.agg (fT cs ds id).1.c,.int .i64 (fT cs ds id).2]∧σ'=shS nx m l q cs ds ex):=by
 refine aA.less (Q':=fun v σ'=>v=.tup [.agg (fT cs ds id).1.c,.int .i64 (fT cs ds id).2]∧(shS nx m l q cs ds ex).le σ') (aA.body 30 [.cell 4 126,.tmp 5] Tryz.func151 rfl rfl rfl rfl ?_) fun v σ' h=>⟨_,h.2,h.1,rfl⟩
 have hall:=nL cs
 have hg:=yW (id:=id) cs
 have hml:=Ne.symm hlm
 have hmq:=Ne.symm hqm
 have hlq:=Ne.symm hql
 have hc:=tP ds hd false id
 have hle:∀{σ:St},σ m=some (.mp (cEs cs))→σ l=some (shO nx m (.vec 3 q 0 ds.length))→σ q=some (.row 197 3 (ds.map DE.c++ex))→(shS nx m l q cs ds ex).le σ:=fun h1 h2 h3=>St.aD (St.aD (St.aD (St.none_le _) h1) h2) h3
 unfold fT
 show R (dC Tryz.prog _ _ (((St.none.set m (.mp (cEs cs))).set l (shO nx m (.vec 3 q 0 ds.length))).set q (.row 197 3 (ds.map DE.c++ex))) _)
 cases hf:cs.find? (fun c=>decide (c.id=id)) with
 | some c =>
  rw[hf,Option.map_some] at hg
  simp only
  repeat' (first|(with_reducible first|(refine wT ?_;(first|((fail_if_success (have:=nl1));refine wN fun nl1 hnl=>?_)|refine wN fun _ hnl=>?_);revert hnl;(repeat refine wS fun _ _=>?_);intro hnl)|refine wE ?_|(refine wK ?_ ?_<;>intro h)|(refine wB ?_ ?_<;>intro h<;>simp only[h]))|simp(maxSteps:=4000000) (disch:=first|exact ddL|fail) only[go_sem,simprocAttr,Tryz.f151,Option.getD_some,Option.getD_none,Option.isSome_some,Option.isSome_none,FYs,hg,hall])
  all_goals first|exact hle (by simp[St.set, *]) (by simp[St.set, *]) (by simp[St.set, *])|exact⟨rfl,hle (by simp[St.set, *]) (by simp[St.set, *]) (by simp[St.set, *])⟩
 | none =>
  rw[hf,Option.map_none] at hg
  simp only
  have hv:∀{σ:St} {b:Nat},σ b=some (.row 3 1 [[.int .i64 id]])→σ q=some (.row 197 3 (ds.map DE.c++ex))→∀(i:Nat) (x x':MV),[MV.vec 3 q 0 ds.length,.fn (.func 222) [] [.ptr b 0 0]][i]?=some x→[MV.lst 3 (ds.map DE.c) false,.fn (.func 222) [] [.cptr [.int .i64 id]]][i]?=some x'→View σ x x':=fun h1 h2 =>
   rQ (eH h2 (by simp)) (.fn rfl (gB (View.ptr (i:=0) (o:=0) h1 (by simp))))
  by_cases hm:id∈ds.map DE.id
  ·rw[decide_eq_true hm] at hc
   rw[if_pos hm]
   repeat' (first|(refine gR [.lst 3 (ds.map DE.c) false,.fn (.func 222) [] [.cptr [.int .i64 id]]] hc (by constructor) rfl (hv (b:=nl1) (by simp[St.set, *]) (by simp[St.set, *])) ?_)|(with_reducible first|(refine wT ?_;(first|((fail_if_success (have:=nl1));refine wN fun nl1 hnl=>?_)|refine wN fun _ hnl=>?_);revert hnl;(repeat refine wS fun _ _=>?_);intro hnl)|refine wE ?_|(refine wK ?_ ?_<;>intro h)|(refine wB ?_ ?_<;>intro h<;>simp only[h]))|simp(maxSteps:=4000000) (disch:=first|exact ddL|fail) only[go_sem,simprocAttr,Tryz.f151,Option.getD_some,Option.getD_none,Option.isSome_some,Option.isSome_none,FYs,hg,hall])
   all_goals first|exact hle (by simp[St.set, *]) (by simp[St.set, *]) (by simp[St.set, *])|exact⟨rfl,hle (by simp[St.set, *]) (by simp[St.set, *]) (by simp[St.set, *])⟩
  ·rw[decide_eq_false hm] at hc
   rw[if_neg hm]
   repeat' (first|(refine gR [.lst 3 (ds.map DE.c) false,.fn (.func 222) [] [.cptr [.int .i64 id]]] hc (by constructor) rfl (hv (b:=nl1) (by simp[St.set, *]) (by simp[St.set, *])) ?_)|(with_reducible first|(refine wT ?_;(first|((fail_if_success (have:=nl1));refine wN fun nl1 hnl=>?_)|refine wN fun _ hnl=>?_);revert hnl;(repeat refine wS fun _ _=>?_);intro hnl)|refine wE ?_|(refine wK ?_ ?_<;>intro h)|(refine wB ?_ ?_<;>intro h<;>simp only[h]))|simp(maxSteps:=4000000) (disch:=first|exact ddL|fail) only[go_sem,simprocAttr,Tryz.f151,Option.getD_some,Option.getD_none,Option.isSome_some,Option.isSome_none,FYs,hg,hall])
   all_goals first|exact hle (by simp[St.set, *]) (by simp[St.set, *]) (by simp[St.set, *])|exact⟨rfl,hle (by simp[St.set, *]) (by simp[St.set, *]) (by simp[St.set, *])⟩
end

section
set_option maxRecDepth 100000
set_option maxHeartbeats 8000000
theorem Jx{P:Program}{g:FuncId}{ms:List MV}{σ τ:St}{q:MV→St→Prop}{k:MV→St→Prop}(h:aA P g ms τ fun v σ'=>∃ρ:St,(∀j o,ρ j=some o→τ j=none)∧σ'=ρ.over τ∧q v ρ)(hle:τ.le σ)
 (hk:∀v ρ,(∀j o,ρ j=some o→σ j=none)→q v ρ→R (bQ v (ρ.over σ) k)):R (cQ P g ms σ k) :=
 bX h hle fun v σ' hv hf=>by
  obtain⟨ρ,hρ,rfl,hq⟩:=hv
  have e:(ρ.over τ).over (σ.minus τ)=ρ.over σ:=by
   funext j
   cases hj:ρ j with
   | some o=>simp[St.over,hj]
   | none =>
    cases ht:τ j with
    | none=>simp[St.over,St.minus,hj,ht]
    | some o'=>simp[St.over,St.minus,hj,ht,hle j o' ht]
  rw[e]
  refine hk v ρ (fun j o hj=>?_) hq
  rcases hf j o (by simp[St.over,hj]) with h|⟨o',h⟩
  ·exact h
  ·rw[hρ j o hj] at h;cases h
theorem uC{c:CA}:∀{cs:List CA},c.id∉cs.map CA.id→cM .i64 c.id (.agg c.c) (cEs cs)=cEs (cs++[c])
 | [],_=>rfl
 | d::cs,h=>by
  simp only[List.map_cons,List.mem_cons,not_or] at h
  have ih:=uC h.2
  simp only[cEs,List.map_cons,List.cons_append,cM] at ih ⊢
  rw[if_neg (Ne.symm h.1),ih]
theorem J2{cs:List CA}{ds:List DE}{id:Int}:((fT cs ds id).2=6)=(id∉cs.map CA.id∧id∉ds.map DE.id):=by
 apply propext
 unfold fT
 cases hf:cs.find? (fun c=>decide (c.id=id)) with
 | some c =>
  have hm:=List.mem_of_find?_eq_some hf
  have he:=List.find?_some hf
  simp only[decide_eq_true_eq] at he
  have:id∈cs.map CA.id:=List.mem_map.2 ⟨c,hm,he⟩
  simp[this]
 | none =>
  have h0:=List.find?_eq_none.1 hf
  have:id∉cs.map CA.id:=fun h=>by
   obtain⟨c,hc,he⟩:=List.mem_map.1 h
   exact h0 c hc (by simpa using he)
  by_cases hd:id∈ds.map DE.id
  ·simp[this,hd]
  ·simp[this,hd]
theorem Mp{nx:Int}{cs:List CA}{pre:List DE}{d:DE}{s:Int}(h1:∀e,e∈pre→e.sq≤s)(h2:0≤s)(h3:s=0∨∃e,e∈pre∧e.sq=s) :
  JU nx cs pre d=decide (1≤d.id∧d.id<nx∧1≤d.ver∧d.ver≤1099511627776∧s≤d.sq∧d.sq≤1099511627776∧(fT cs pre d.id).2=6):=by
 rw[Bool.eq_iff_iff]
 unfold JU big
 simp only[Bool.and_eq_true,decide_eq_true_eq,List.all_eq_true,J2]
 constructor
 ·rintro⟨⟨⟨a1,a2,a3,a4,a5,a6⟩,b⟩,c⟩
  refine⟨a1,a2,a3,a4,?_,a6,b,fun h=>?_⟩
  ·rcases h3 with rfl|⟨e,he,rfl⟩
   ·exact a5
   ·exact(c e he).2
  ·obtain⟨e,he,hid⟩:=List.mem_map.1 h
   exact(c e he).1 hid
 ·rintro⟨a1,a2,a3,a4,a5,a6,b,c⟩
  exact⟨⟨⟨a1,a2,a3,a4,by omega,a6⟩,b⟩,fun e he=>⟨fun hid=>c (List.mem_map.2 ⟨e,he,hid⟩),Int.le_trans (h1 e he) a5⟩⟩
end
end Go.Proofs.YtppdgejjmhdjhaaGreatDoor
