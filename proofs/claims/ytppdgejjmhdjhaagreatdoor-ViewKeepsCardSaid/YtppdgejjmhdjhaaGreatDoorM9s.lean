/- Parts of the proof; conditions: as its theorems name them. -/
import Derived.Test.YtppdgejjmhdjhaaGreatDoorM9k
set_option linter.unusedVariables false
set_option linter.unusedSimpArgs false
set_option maxHeartbeats 8000000
set_option maxRecDepth 100000
namespace Go.Proofs.YtppdgejjmhdjhaaGreatDoor
theorem IQ(a b:List IT)(ta tb:Bool)(hl:a.length≤1000000):aA Tryz.prog 36 [.lst 28 (IT.ks a) ta,.lst 28 (IT.ks b) tb] St.none (fun r _=>r=.bool (decide (a=b))):=by
 refine(mB 26 [.tmp 4] Tryz.func36 ?_)
 by_cases hlen:a.length=b.length
 ·repeat' first|refine wZ1 @Tryz.f36.eq_1 ?_|fail
  refine aE (α:=Nat) (fun i=>⟨26,[(5,.int .i64 (i:Int)),(0,.lst 28 (IT.ks a) ta),(1,.lst 28 (IT.ks b) tb)],[]⟩) (fun _=>St.none) (fun i=>i≤a.length∧a.take i=b.take i) (fun i=>a.length - i) (.of (.less ?_ (St.le_refl _)) ⟨0,rfl,rfl,Nat.zero_le _,rfl⟩) ?_
  ·exact wW
  ·rintro i ⟨hi,hq⟩
   by_cases hlt:i<a.length
   ·have hm:=Qk (a.getD i it0) (b.getD i it0)
    have hsa:=List.take_succ_eq_append_getElem (l:=a) hlt
    have hib:i<b.length:=by omega
    have hsb:=List.take_succ_eq_append_getElem (l:=b) hib
    rw[←bP it0 hlt] at hsa
    rw[←bP it0 hib] at hsb
    obtain⟨x,hx⟩:∃x,a.getD i it0=x:=⟨_,rfl⟩
    obtain⟨y,hy⟩:∃y,b.getD i it0=y:=⟨_,rfl⟩
    rw[hx] at hm hsa
    rw[hy] at hm hsb
    by_cases he:x=y
    ·rw[decide_eq_true he] at hm
     repeat' (first|(with_reducible first|(refine wN fun _ hnl=>?_;revert hnl;(repeat refine wS fun _ _=>?_);intro hnl)|refine wE ?_|(refine wK ?_ ?_<;>intro h)|(refine wB ?_ ?_<;>intro h<;>simp only[h]))|simp(maxSteps:=4000000) (disch:=first|decide|assumption|omega|(simp only[wL];omega)) only[go_sem,simprocAttr,FXs,bN it0,hx,hy,hm])
     refine .of (.less ?_ (St.le_refl _)) ⟨i+1,rfl,rfl,⟨by omega,by rw[hsa,hsb,hq,he]⟩,by omega⟩
     exact wW
    ·rw[decide_eq_false he] at hm
     have hne:¬a=b:=fun e=>he (by rw[←hx,←hy,e])
     rw[decide_eq_false hne]
     repeat' (first|(with_reducible first|(refine wN fun _ hnl=>?_;revert hnl;(repeat refine wS fun _ _=>?_);intro hnl)|refine wE ?_|(refine wK ?_ ?_<;>intro h)|(refine wB ?_ ?_<;>intro h<;>simp only[h]))|simp(maxSteps:=4000000) (disch:=first|decide|assumption|omega|(simp only[wL];omega)) only[go_sem,simprocAttr,FXs,bN it0,hx,hy,hm])
     all_goals done
   ·have:i=a.length:=by omega
    subst this
    rw[List.take_length,hlen,List.take_length] at hq
    rw[decide_eq_true hq]
    repeat' first|refine wZ0 ?_|exact wC0|fail
    all_goals done
 ·rw[decide_eq_false fun e=>hlen (by rw[e])]
  repeat' first|refine wZ1 @Tryz.f36.eq_1 ?_|exact wC1 @Tryz.f36.eq_1|fail
  all_goals (first|rfl|(exfalso;omega))
end Go.Proofs.YtppdgejjmhdjhaaGreatDoor
