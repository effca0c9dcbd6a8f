/- Parts of the proof, joined; conditions: those that its theorems name. -/
import Derived.Test.YtojmhmejdihaaaaGreatDoorStu
import Derived.Test.YtojmhmejdihaaaaGreatDoorStz
set_option linter.unusedVariables false
set_option linter.unusedSimpArgs false
set_option maxHeartbeats 4000000
namespace Go.Proofs.YtojmhmejdihaaaaGreatDoor
set_option maxRecDepth 100000
set_option maxHeartbeats 8000000
theorem Dg(l:List RW)(hl:l.length≤1000000)(hf:∀r,r∈l→r.ans.fl.length≤1000000)(tt:Bool):aA Tryz.prog 87 [.lst 12 (l.map RW.c) tt] St.none (fun r _=>r=.bool (cE l)):=by
 refine aA.bF (aA.body 72 [.tmp 2] Tryz.func87 rfl rfl rfl rfl ?_)
 by_cases h6:l.length=6
 rotate_left
 ·have e:cE l=false:=by simp[cE,h6]
  rw[e]
  repeat' (first|(with_reducible first|(refine wN fun _ hnl=>?_;revert hnl;(repeat refine wS fun _ _=>?_);intro hnl)|refine wE ?_|(refine wK ?_ ?_<;>intro h)|(refine wB ?_ ?_<;>intro h<;>simp only[h]))|simp(maxSteps:=4000000) (disch:=first|decide|assumption|omega|(simp only[wL];omega)) only[go_sem,simprocAttr,Tryz.f87])
  all_goals first|exact⟨_,St.le_refl _,rfl⟩|exact⟨_,St.le_refl _⟩|(exfalso;omega)
 ·repeat' (first|(with_reducible first|(refine wN fun _ hnl=>?_;revert hnl;(repeat refine wS fun _ _=>?_);intro hnl)|refine wE ?_|(refine wK ?_ ?_<;>intro h)|(refine wB ?_ ?_<;>intro h<;>simp only[h]))|simp(maxSteps:=4000000) (disch:=first|decide|assumption|omega|(simp only[wL];omega)) only[go_sem,simprocAttr,Tryz.f87,h6])
  refine aD (α:=Nat) (fun i=>⟨72,[(3,.int .i64 (i:Int)),(0,.lst 12 (l.map RW.c) tt)],[]⟩) (fun _=>St.none) (fun i=>i≤6∧∀k,k<i→qU k (l.getD k rwZ)=true) (fun i=>6 - i) (.of (.less ?_ (St.le_refl _)) ⟨0,rfl,rfl,Nat.zero_le _,fun k hk=>absurd hk (Nat.not_lt_zero _)⟩) ?_
  ·simp(maxSteps:=4000000) (disch:=first|decide|assumption|omega|(simp only[wL];omega)) only[go_sem,simprocAttr,aC,aB]
   all_goals rfl
  ·rintro i ⟨hi,hok⟩
   by_cases hi6:i<6
   ·have hat:(l.map RW.c).getD i []=(l.getD i rwZ).c:=aU rwZ (by omega)
    have hml:=hf _ (bK rwZ (by omega:i<l.length))
    obtain⟨r,hr⟩:∃r,l.getD i rwZ=r:=⟨_,rfl⟩
    rw[hr] at hat hml
    have hs:=sZ r.ans re0 hml
    have hc:=Bf r.ans
    obtain⟨sb,hsb⟩:∃b,decide (r.ans=re0)=b:=⟨_,rfl⟩
    obtain⟨cb,hcb⟩:∃b,nC r.ans=b:=⟨_,rfl⟩
    rw[hsb] at hs
    rw[hcb] at hc
    have vre0:View St.none (.agg rX) (.agg re0.c):=.Mv ⟨.same _,.same _,.same _,.same _,.same _,.same _,.same _,.same _,.nil 5 false,.same _,trivial⟩ rfl
    have bad:qU i r=false→cE l=false:=fun hb=>by
     unfold cE
     rw[Bool.and_eq_false_iff]
     right
     rw[List.all_eq_false]
     exact⟨i,List.mem_range.2 hi6,by rw[hr,hb];simp⟩
    have okI:qU i r=decide (0≤r.last∧r.last≤1099511627776∧0≤r.ep∧r.ep≤1099511627776∧(r.last=0→sb=true)∧(0<r.last→cb=true∧r.ans.dev=i∧r.ans.req=r.last)):=by
     unfold qU big
     rw[←hsb,←hcb]
     exact decide_eq_decide.mpr (by simp only[decide_eq_true_iff])
    cases sb<;>cases cb
    all_goals
     repeat' (first|((with_reducible refine DB [.agg r.ans.c,.agg re0.c] hs rfl (lH (.same _) vre0) ?_))|(with_reducible first|refine up hc ?_)|(with_reducible first|(refine wN fun _ hnl=>?_;revert hnl;(repeat refine wS fun _ _=>?_);intro hnl)|refine wE ?_|(refine wK ?_ ?_<;>intro h)|(refine wB ?_ ?_<;>intro h<;>simp only[h]))|simp(maxSteps:=4000000) (disch:=first|decide|assumption|omega|(simp only[wL];omega)) only[go_sem,simprocAttr,hat,h6])
    all_goals try (rw[bad (by rw[okI];exact decide_eq_false (by simp;omega))];first|exact⟨_,St.le_refl _,rfl⟩|exact⟨_,St.le_refl _⟩)
    all_goals
     refine .of (.less ?_ (St.none_le _)) ⟨i+1,rfl,rfl,⟨by omega,fun k hk=>?_⟩,by omega⟩
     ·simp(maxSteps:=4000000) (disch:=first|decide|assumption|omega|(simp only[wL];omega)) only[go_sem,simprocAttr,aC,aB]
      all_goals rfl
     ·by_cases hki:k=i
      ·subst hki
       rw[hr,okI]
       exact decide_eq_true (by simp;omega)
      ·exact hok k (by omega)
   ·have:i=6:=by omega
    subst this
    have e:cE l=true:=by
     unfold cE
     rw[Bool.and_eq_true]
     exact⟨decide_eq_true h6,List.all_eq_true.2 fun k hk=>hok k (List.mem_range.1 hk)⟩
    rw[e]
    repeat' (first|(with_reducible first|(refine wN fun _ hnl=>?_;revert hnl;(repeat refine wS fun _ _=>?_);intro hnl)|refine wE ?_|(refine wK ?_ ?_<;>intro h)|(refine wB ?_ ?_<;>intro h<;>simp only[h]))|simp(maxSteps:=4000000) (disch:=first|decide|assumption|omega|(simp only[wL];omega)) only[go_sem,simprocAttr,h6])
    all_goals first|exact⟨_,St.le_refl _,rfl⟩|exact⟨_,St.le_refl _⟩
theorem Qd{a b:SU}:decide (a=b)=(decide (a.dev=b.dev)&&decide (a.ep=b.ep)&&decide (a.mask=b.mask)&&decide (a.floor=b.floor)&&(decide (a.fl=b.fl)&&decide (a.mem=b.mem)&&decide (a.log=b.log))):=by
 rw[Bool.eq_iff_iff]
 simp only[Bool.and_eq_true,decide_eq_true_eq,L8]
 constructor
 ·rintro⟨h1,h2,h3,h4,h5,h6,h7⟩
  exact⟨⟨⟨⟨h1,h2⟩,h4⟩,h5⟩,⟨h3,h6⟩,h7⟩
 ·rintro⟨⟨⟨⟨h1,h2⟩,h4⟩,h5⟩,⟨h3,h6⟩,h7⟩
  exact⟨h1,h2,h3,h4,h5,h6,h7⟩
theorem GX{a b:UInt32}:((a.toNat:Int)=(b.toNat:Int))=(a=b):=propext ⟨fun h=>UInt32.toNat_inj.1 (by omega),fun h=>by rw[h]⟩
theorem yK(a b:List SU)(hl:a.length≤1000000)(hs:SuF a)(ta tb:Bool):aA Tryz.prog 92 [.lst 7 (a.map SU.c) ta,.lst 7 (b.map SU.c) tb] St.none (fun r _=>r=.bool (decide (a=b))):=by
 refine aA.bF (aA.body 107 [.tmp 4] Tryz.func92 rfl rfl rfl rfl ?_)
 by_cases hlen:a.length=b.length
 rotate_left
 ·rw[decide_eq_false fun e=>hlen (by rw[e])]
  repeat' (first|(with_reducible first|(refine wN fun _ hnl=>?_;revert hnl;(repeat refine wS fun _ _=>?_);intro hnl)|refine wE ?_|(refine wK ?_ ?_<;>intro h)|(refine wB ?_ ?_<;>intro h<;>simp only[h]))|simp(maxSteps:=4000000) (disch:=first|decide|assumption|omega|(simp only[wL];omega)) only[go_sem,simprocAttr,Tryz.f92])
  all_goals first|exact⟨_,St.le_refl _,rfl⟩|exact⟨_,St.le_refl _⟩|(exfalso;omega)
 ·repeat' (first|(with_reducible first|(refine wN fun _ hnl=>?_;revert hnl;(repeat refine wS fun _ _=>?_);intro hnl)|refine wE ?_|(refine wK ?_ ?_<;>intro h)|(refine wB ?_ ?_<;>intro h<;>simp only[h]))|simp(maxSteps:=4000000) (disch:=first|decide|assumption|omega|(simp only[wL];omega)) only[go_sem,simprocAttr,Tryz.f92])
  all_goals (try (exfalso;omega))
  refine aD (α:=Nat) (fun i=>⟨107,[(5,.int .i64 (i:Int)),(0,.lst 7 (a.map SU.c) ta),(1,.lst 7 (b.map SU.c) tb)],[]⟩) (fun _=>St.none) (fun i=>i≤a.length∧a.take i=b.take i) (fun i=>a.length - i) (.of (.less ?_ (St.le_refl _)) ⟨0,rfl,rfl,Nat.zero_le _,rfl⟩) ?_
  ·simp(maxSteps:=4000000) (disch:=first|decide|assumption|omega|(simp only[wL];omega)) only[go_sem,simprocAttr,aC,aB]
   all_goals rfl
  ·rintro i ⟨hi,hq⟩
   by_cases hlt:i<a.length
   ·obtain⟨x,hx⟩:=bC a hlt
    obtain⟨y,hy⟩:=bC b (by omega:i<b.length)
    have hatx:=aV (f:=SU.c) hx
    have haty:=aV (f:=SU.c) hy
    have hsx:=aO hx
    have hsy:=aO hy
    obtain⟨z1,z2,z3⟩:=hs x (bR hx)
    have c1:=wJ x.fl y.fl z1 false false
    have c2:=pG x.mem y.mem z2 false false
    have c3:=Di x.log y.log z3 false false
    have hbad:decide (x=y)=false→decide (a=b)=false:=fun h=>decide_eq_false fun e=>by
     subst e
     rw[hx] at hy
     cases hy
     simp at h
    have hgo:decide (x=y)=true→a.take (i+1)=b.take (i+1):=fun h=>by rw[hsx,hsy,hq,of_decide_eq_true h]
    have hu:=GX (a:=x.mask) (b:=y.mask)
    rw[Qd] at hbad hgo
    obtain⟨b1,hb1⟩:∃z,decide (x.fl=y.fl)=z:=⟨_,rfl⟩
    obtain⟨b2,hb2⟩:∃z,decide (x.mem=y.mem)=z:=⟨_,rfl⟩
    obtain⟨b3,hb3⟩:∃z,decide (x.log=y.log)=z:=⟨_,rfl⟩
    rw[hb1] at c1 hbad hgo
    rw[hb2] at c2 hbad hgo
    rw[hb3] at c3 hbad hgo
    obtain⟨C,d1,d2,d3⟩:∃C:bP,(∀ms,C 71 ms=some ⟨[],fun v=>v=.bool b1,none⟩)∧(∀ms,C 31 ms=some ⟨[],fun v=>v=.bool b2,none⟩)∧∀ms,C 151 ms=some ⟨[],fun v=>v=.bool b3,none⟩ :=
     ⟨fnF [(71,⟨[],fun v=>v=.bool b1,none⟩),(31,⟨[],fun v=>v=.bool b2,none⟩),(151,⟨[],fun v=>v=.bool b3,none⟩)],fun _=>bN,fun _=>dF bN,fun _=>dF (dF bN)⟩
    by_cases h1:x.dev=y.dev∧x.ep=y.ep∧x.mask=y.mask∧x.floor=y.floor
    rotate_left
    ·have e:(decide (x.dev=y.dev)&&decide (x.ep=y.ep)&&decide (x.mask=y.mask)&&decide (x.floor=y.floor))=false:=by
      rw[Bool.eq_false_iff]
      intro h
      simp only[Bool.and_eq_true,decide_eq_true_eq] at h
      exact h1 ⟨h.1.1.1,h.1.1.2,h.1.2,h.2⟩
     rw[e,Bool.false_and] at hbad
     rw[hbad rfl]
     repeat' (first|(with_reducible first|(refine wN fun _ hnl=>?_;revert hnl;(repeat refine wS fun _ _=>?_);intro hnl)|refine wE ?_|(refine wK ?_ ?_<;>intro h)|(refine wB ?_ ?_<;>intro h<;>simp only[h]))|simp(maxSteps:=4000000) (disch:=first|decide|assumption|omega|(simp only[wL];omega)) only[go_sem,simprocAttr,hatx,haty,hu])
     all_goals first|exact⟨_,St.le_refl _,rfl⟩|exact⟨_,St.le_refl _⟩|(exfalso;simp_all;done)|(exfalso;omega)
    ·obtain⟨e1,e2,e3,e4⟩:=h1
     rw[decide_eq_true e1,decide_eq_true e2,decide_eq_true e3,decide_eq_true e4] at hbad hgo
     cases b1<;>cases b2<;>cases b3
     all_goals
      repeat' (first|(with_reducible first|(refine wN fun _ hnl=>?_;revert hnl;(repeat refine wS fun _ _=>?_);intro hnl)|refine wE ?_|(refine wK ?_ ?_<;>intro h)|(refine wB ?_ ?_<;>intro h<;>simp only[h]))|simp(maxSteps:=4000000) (disch:=first|decide|assumption|omega|(simp only[wL];omega)) only[go_sem,simprocAttr,hatx,haty,e1,e2,e3,e4])
      all_goals (try (exfalso;omega))
      refine aJ mixed (by decide +kernel) C ?_
      repeat' (first|(with_reducible refine aF (d1 _) c1 ?_)|(with_reducible refine aF (d2 _) c2 ?_)|(with_reducible refine aF (d3 _) c3 ?_)|(with_reducible first|(refine wN fun _ hnl=>?_;revert hnl;(repeat refine wS fun _ _=>?_);intro hnl)|refine wE ?_|(refine wK ?_ ?_<;>intro h)|(refine wB ?_ ?_<;>intro h<;>simp only[h]))|simp(maxSteps:=4000000) (disch:=first|decide|assumption|omega|(simp only[wL];omega)) only[go_sem,simprocAttr,hatx,haty])
      first
      | (rw[hbad rfl];first|exact⟨_,St.le_refl _,rfl⟩|exact⟨_,St.le_refl _⟩)
      | skip
     refine .of (.less ?_ (St.none_le _)) ⟨i+1,rfl,rfl,⟨by omega,hgo rfl⟩,by omega⟩
     simp(maxSteps:=4000000) (disch:=first|decide|assumption|omega|(simp only[wL];omega)) only[go_sem,simprocAttr,aC,aB]
     all_goals rfl
   ·have:i=a.length:=by omega
    subst this
    rw[List.take_length,hlen,List.take_length] at hq
    rw[decide_eq_true hq]
    repeat' (first|(with_reducible first|(refine wN fun _ hnl=>?_;revert hnl;(repeat refine wS fun _ _=>?_);intro hnl)|refine wE ?_|(refine wK ?_ ?_<;>intro h)|(refine wB ?_ ?_<;>intro h<;>simp only[h]))|simp(maxSteps:=4000000) (disch:=first|decide|assumption|omega|(simp only[wL];omega)) only[go_sem,simprocAttr])
    all_goals first|exact⟨_,St.le_refl _,rfl⟩|exact⟨_,St.le_refl _⟩
end Go.Proofs.YtojmhmejdihaaaaGreatDoor
