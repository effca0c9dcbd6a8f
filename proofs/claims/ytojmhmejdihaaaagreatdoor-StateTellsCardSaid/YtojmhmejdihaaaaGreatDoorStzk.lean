/- Parts of the proof, joined; conditions: those that its theorems name. -/
import Derived.Test.YtojmhmejdihaaaaGreatDoorStzj
set_option linter.unusedVariables false
set_option linter.unusedSimpArgs false
set_option maxHeartbeats 4000000
namespace Go.Proofs.YtojmhmejdihaaaaGreatDoor
section
set_option maxRecDepth 100000
set_option maxHeartbeats 8000000
theorem Fi(a b:List CA)(hl:a.length≤1000000)(hc:∀x y,x∈a→y∈b→aA Tryz.prog 253 [.agg (CA.c x),.agg (CA.c y)] St.none (fun r _=>r=.bool (decide (x=y))))(ta tb:Bool):aA Tryz.prog 252 [.lst 27 (a.map CA.c) ta,.lst 27 (b.map CA.c) tb,.fn (.func 253) [] []] St.none (fun r _=>r=.bool (decide (a=b))):=by
 refine aA.bF (aA.body 32 [.tmp 6] Tryz.func252 rfl rfl rfl rfl ?_)
 by_cases hlen:a.length=b.length
 rotate_left
 ·rw[decide_eq_false fun e=>hlen (by rw[e])]
  repeat' (first|(with_reducible first|(refine wN fun _ hnl=>?_;revert hnl;(repeat refine wS fun _ _=>?_);intro hnl)|refine wE ?_|(refine wK ?_ ?_<;>intro h)|(refine wB ?_ ?_<;>intro h<;>simp only[h]))|simp(maxSteps:=4000000) (disch:=first|exact ddL|fail) only[go_sem,simprocAttr,Tryz.f252])
  all_goals first|exact⟨_,St.le_refl _,rfl⟩|exact⟨_,St.le_refl _⟩|(exfalso;omega)
 ·repeat' (first|(with_reducible first|(refine wN fun _ hnl=>?_;revert hnl;(repeat refine wS fun _ _=>?_);intro hnl)|refine wE ?_|(refine wK ?_ ?_<;>intro h)|(refine wB ?_ ?_<;>intro h<;>simp only[h]))|simp(maxSteps:=4000000) (disch:=first|exact ddL|fail) only[go_sem,simprocAttr,Tryz.f252])
  all_goals (try (exfalso;omega))
  refine aD (α:=Nat) (fun i=>⟨32,[(17,.int .i64 (i:Int)),(16,.int .i64 (a.length:Int)),(15,.lst 27 (a.map CA.c) ta),(1,.lst 27 (b.map CA.c) tb),(2,.fn (.func 253) [] [])],[]⟩) (fun _=>St.none) (fun i=>i≤a.length∧a.take i=b.take i) (fun i=>a.length - i) (.of (.less ?_ (St.le_refl _)) ⟨0,rfl,rfl,Nat.zero_le _,rfl⟩) ?_
  ·simp(maxSteps:=4000000) (disch:=first|exact ddL|fail) only[go_sem,simprocAttr,aC,aB]
   all_goals first|rfl|(simp;done)
  ·rintro i ⟨hi,hq⟩
   by_cases hlt:i<a.length
   ·obtain⟨x,hx⟩:=bC a hlt
    obtain⟨y,hy⟩:=bC b (by omega:i<b.length)
    have hat:=aV (f:=CA.c) hx
    have hbt:=aV (f:=CA.c) hy
    have hcl:=hc x y (bR hx) (bR hy)
    by_cases he:x=y
    ·have hnext:a.take (i+1)=b.take (i+1):=by rw[aO hx,aO hy,hq,he]
     rw[decide_eq_true he] at hcl
     repeat' (first|(with_reducible first|refine up hcl ?_)|(with_reducible first|(refine wN fun _ hnl=>?_;revert hnl;(repeat refine wS fun _ _=>?_);intro hnl)|refine wE ?_|(refine wK ?_ ?_<;>intro h)|(refine wB ?_ ?_<;>intro h<;>simp only[h]))|simp(maxSteps:=4000000) (disch:=first|exact ddL|fail) only[go_sem,simprocAttr,FXs,hat,hbt])
     all_goals (try (exfalso;omega))
     all_goals
      refine .of (.less ?_ (St.none_le _)) ⟨i+1,rfl,rfl,⟨by omega,hnext⟩,by omega⟩
      simp(maxSteps:=4000000) (disch:=first|exact ddL|fail) only[go_sem,simprocAttr,aC,aB]
      all_goals first|rfl|(simp;done)
    ·have hne':a≠b:=fun e=>by subst e;rw[hx] at hy;exact he (Option.some.inj hy)
     rw[decide_eq_false hne']
     rw[decide_eq_false he] at hcl
     repeat' (first|(with_reducible first|refine up hcl ?_)|(with_reducible first|(refine wN fun _ hnl=>?_;revert hnl;(repeat refine wS fun _ _=>?_);intro hnl)|refine wE ?_|(refine wK ?_ ?_<;>intro h)|(refine wB ?_ ?_<;>intro h<;>simp only[h]))|simp(maxSteps:=4000000) (disch:=first|exact ddL|fail) only[go_sem,simprocAttr,FXs,hat,hbt])
     all_goals first|exact⟨_,St.le_refl _,rfl⟩|exact⟨_,St.le_refl _⟩|(exfalso;omega)
   ·have:i=a.length:=by omega
    subst this
    have he:a=b:=by
     rw[List.take_length,hlen,List.take_length] at hq
     exact hq
    rw[decide_eq_true he]
    repeat' (first|(with_reducible first|(refine wN fun _ hnl=>?_;revert hnl;(repeat refine wS fun _ _=>?_);intro hnl)|refine wE ?_|(refine wK ?_ ?_<;>intro h)|(refine wB ?_ ?_<;>intro h<;>simp only[h]))|simp(maxSteps:=4000000) (disch:=first|exact ddL|fail) only[go_sem,simprocAttr])
    all_goals first|exact⟨_,St.le_refl _,rfl⟩|exact⟨_,St.le_refl _⟩
theorem Fj(a b:List GR)(hl:a.length≤1000000)(hc:∀x y,x∈a→y∈b→aA Tryz.prog 255 [.agg (GR.c x),.agg (GR.c y)] St.none (fun r _=>r=.bool (decide (x=y))))(ta tb:Bool):aA Tryz.prog 254 [.lst 2 (a.map GR.c) ta,.lst 2 (b.map GR.c) tb,.fn (.func 255) [] []] St.none (fun r _=>r=.bool (decide (a=b))):=by
 refine aA.bF (aA.body 32 [.tmp 6] Tryz.func254 rfl rfl rfl rfl ?_)
 by_cases hlen:a.length=b.length
 rotate_left
 ·rw[decide_eq_false fun e=>hlen (by rw[e])]
  repeat' (first|(with_reducible first|(refine wN fun _ hnl=>?_;revert hnl;(repeat refine wS fun _ _=>?_);intro hnl)|refine wE ?_|(refine wK ?_ ?_<;>intro h)|(refine wB ?_ ?_<;>intro h<;>simp only[h]))|simp(maxSteps:=4000000) (disch:=first|exact ddL|fail) only[go_sem,simprocAttr,Tryz.f254])
  all_goals first|exact⟨_,St.le_refl _,rfl⟩|exact⟨_,St.le_refl _⟩|(exfalso;omega)
 ·repeat' (first|(with_reducible first|(refine wN fun _ hnl=>?_;revert hnl;(repeat refine wS fun _ _=>?_);intro hnl)|refine wE ?_|(refine wK ?_ ?_<;>intro h)|(refine wB ?_ ?_<;>intro h<;>simp only[h]))|simp(maxSteps:=4000000) (disch:=first|exact ddL|fail) only[go_sem,simprocAttr,Tryz.f254])
  all_goals (try (exfalso;omega))
  refine aD (α:=Nat) (fun i=>⟨32,[(17,.int .i64 (i:Int)),(16,.int .i64 (a.length:Int)),(15,.lst 2 (a.map GR.c) ta),(1,.lst 2 (b.map GR.c) tb),(2,.fn (.func 255) [] [])],[]⟩) (fun _=>St.none) (fun i=>i≤a.length∧a.take i=b.take i) (fun i=>a.length - i) (.of (.less ?_ (St.le_refl _)) ⟨0,rfl,rfl,Nat.zero_le _,rfl⟩) ?_
  ·simp(maxSteps:=4000000) (disch:=first|exact ddL|fail) only[go_sem,simprocAttr,aC,aB]
   all_goals first|rfl|(simp;done)
  ·rintro i ⟨hi,hq⟩
   by_cases hlt:i<a.length
   ·obtain⟨x,hx⟩:=bC a hlt
    obtain⟨y,hy⟩:=bC b (by omega:i<b.length)
    have hat:=aV (f:=GR.c) hx
    have hbt:=aV (f:=GR.c) hy
    have hcl:=hc x y (bR hx) (bR hy)
    by_cases he:x=y
    ·have hnext:a.take (i+1)=b.take (i+1):=by rw[aO hx,aO hy,hq,he]
     rw[decide_eq_true he] at hcl
     repeat' (first|(with_reducible first|refine up hcl ?_)|(with_reducible first|(refine wN fun _ hnl=>?_;revert hnl;(repeat refine wS fun _ _=>?_);intro hnl)|refine wE ?_|(refine wK ?_ ?_<;>intro h)|(refine wB ?_ ?_<;>intro h<;>simp only[h]))|simp(maxSteps:=4000000) (disch:=first|exact ddL|fail) only[go_sem,simprocAttr,FXs,hat,hbt])
     all_goals (try (exfalso;omega))
     all_goals
      refine .of (.less ?_ (St.none_le _)) ⟨i+1,rfl,rfl,⟨by omega,hnext⟩,by omega⟩
      simp(maxSteps:=4000000) (disch:=first|exact ddL|fail) only[go_sem,simprocAttr,aC,aB]
      all_goals first|rfl|(simp;done)
    ·have hne':a≠b:=fun e=>by subst e;rw[hx] at hy;exact he (Option.some.inj hy)
     rw[decide_eq_false hne']
     rw[decide_eq_false he] at hcl
     repeat' (first|(with_reducible first|refine up hcl ?_)|(with_reducible first|(refine wN fun _ hnl=>?_;revert hnl;(repeat refine wS fun _ _=>?_);intro hnl)|refine wE ?_|(refine wK ?_ ?_<;>intro h)|(refine wB ?_ ?_<;>intro h<;>simp only[h]))|simp(maxSteps:=4000000) (disch:=first|exact ddL|fail) only[go_sem,simprocAttr,FXs,hat,hbt])
     all_goals first|exact⟨_,St.le_refl _,rfl⟩|exact⟨_,St.le_refl _⟩|(exfalso;omega)
   ·have:i=a.length:=by omega
    subst this
    have he:a=b:=by
     rw[List.take_length,hlen,List.take_length] at hq
     exact hq
    rw[decide_eq_true he]
    repeat' (first|(with_reducible first|(refine wN fun _ hnl=>?_;revert hnl;(repeat refine wS fun _ _=>?_);intro hnl)|refine wE ?_|(refine wK ?_ ?_<;>intro h)|(refine wB ?_ ?_<;>intro h<;>simp only[h]))|simp(maxSteps:=4000000) (disch:=first|exact ddL|fail) only[go_sem,simprocAttr])
    all_goals first|exact⟨_,St.le_refl _,rfl⟩|exact⟨_,St.le_refl _⟩
theorem Fl(a b:List SU)(hl:a.length≤1000000)(hc:∀x y,x∈a→y∈b→aA Tryz.prog 175 [.agg (SU.c x),.agg (SU.c y)] St.none (fun r _=>r=.bool (decide (x=y))))(ta tb:Bool):aA Tryz.prog 174 [.lst 7 (a.map SU.c) ta,.lst 7 (b.map SU.c) tb,.fn (.func 175) [] []] St.none (fun r _=>r=.bool (decide (a=b))):=by
 refine aA.bF (aA.body 32 [.tmp 6] Tryz.func174 rfl rfl rfl rfl ?_)
 by_cases hlen:a.length=b.length
 rotate_left
 ·rw[decide_eq_false fun e=>hlen (by rw[e])]
  repeat' (first|(with_reducible first|(refine wN fun _ hnl=>?_;revert hnl;(repeat refine wS fun _ _=>?_);intro hnl)|refine wE ?_|(refine wK ?_ ?_<;>intro h)|(refine wB ?_ ?_<;>intro h<;>simp only[h]))|simp(maxSteps:=4000000) (disch:=first|exact ddL|fail) only[go_sem,simprocAttr,Tryz.f174])
  all_goals first|exact⟨_,St.le_refl _,rfl⟩|exact⟨_,St.le_refl _⟩|(exfalso;omega)
 ·repeat' (first|(with_reducible first|(refine wN fun _ hnl=>?_;revert hnl;(repeat refine wS fun _ _=>?_);intro hnl)|refine wE ?_|(refine wK ?_ ?_<;>intro h)|(refine wB ?_ ?_<;>intro h<;>simp only[h]))|simp(maxSteps:=4000000) (disch:=first|exact ddL|fail) only[go_sem,simprocAttr,Tryz.f174])
  all_goals (try (exfalso;omega))
  refine aD (α:=Nat) (fun i=>⟨32,[(17,.int .i64 (i:Int)),(16,.int .i64 (a.length:Int)),(15,.lst 7 (a.map SU.c) ta),(1,.lst 7 (b.map SU.c) tb),(2,.fn (.func 175) [] [])],[]⟩) (fun _=>St.none) (fun i=>i≤a.length∧a.take i=b.take i) (fun i=>a.length - i) (.of (.less ?_ (St.le_refl _)) ⟨0,rfl,rfl,Nat.zero_le _,rfl⟩) ?_
  ·simp(maxSteps:=4000000) (disch:=first|exact ddL|fail) only[go_sem,simprocAttr,aC,aB]
   all_goals first|rfl|(simp;done)
  ·rintro i ⟨hi,hq⟩
   by_cases hlt:i<a.length
   ·obtain⟨x,hx⟩:=bC a hlt
    obtain⟨y,hy⟩:=bC b (by omega:i<b.length)
    have hat:=aV (f:=SU.c) hx
    have hbt:=aV (f:=SU.c) hy
    have hcl:=hc x y (bR hx) (bR hy)
    by_cases he:x=y
    ·have hnext:a.take (i+1)=b.take (i+1):=by rw[aO hx,aO hy,hq,he]
     rw[decide_eq_true he] at hcl
     repeat' (first|(with_reducible first|refine up hcl ?_)|(with_reducible first|(refine wN fun _ hnl=>?_;revert hnl;(repeat refine wS fun _ _=>?_);intro hnl)|refine wE ?_|(refine wK ?_ ?_<;>intro h)|(refine wB ?_ ?_<;>intro h<;>simp only[h]))|simp(maxSteps:=4000000) (disch:=first|exact ddL|fail) only[go_sem,simprocAttr,FXs,hat,hbt])
     all_goals (try (exfalso;omega))
     all_goals
      refine .of (.less ?_ (St.none_le _)) ⟨i+1,rfl,rfl,⟨by omega,hnext⟩,by omega⟩
      simp(maxSteps:=4000000) (disch:=first|exact ddL|fail) only[go_sem,simprocAttr,aC,aB]
      all_goals first|rfl|(simp;done)
    ·have hne':a≠b:=fun e=>by subst e;rw[hx] at hy;exact he (Option.some.inj hy)
     rw[decide_eq_false hne']
     rw[decide_eq_false he] at hcl
     repeat' (first|(with_reducible first|refine up hcl ?_)|(with_reducible first|(refine wN fun _ hnl=>?_;revert hnl;(repeat refine wS fun _ _=>?_);intro hnl)|refine wE ?_|(refine wK ?_ ?_<;>intro h)|(refine wB ?_ ?_<;>intro h<;>simp only[h]))|simp(maxSteps:=4000000) (disch:=first|exact ddL|fail) only[go_sem,simprocAttr,FXs,hat,hbt])
     all_goals first|exact⟨_,St.le_refl _,rfl⟩|exact⟨_,St.le_refl _⟩|(exfalso;omega)
   ·have:i=a.length:=by omega
    subst this
    have he:a=b:=by
     rw[List.take_length,hlen,List.take_length] at hq
     exact hq
    rw[decide_eq_true he]
    repeat' (first|(with_reducible first|(refine wN fun _ hnl=>?_;revert hnl;(repeat refine wS fun _ _=>?_);intro hnl)|refine wE ?_|(refine wK ?_ ?_<;>intro h)|(refine wB ?_ ?_<;>intro h<;>simp only[h]))|simp(maxSteps:=4000000) (disch:=first|exact ddL|fail) only[go_sem,simprocAttr])
    all_goals first|exact⟨_,St.le_refl _,rfl⟩|exact⟨_,St.le_refl _⟩
theorem IN(x y:CA):aA Tryz.prog 253 [.agg x.c,.agg y.c] St.none (fun r _=>r=.bool (decide (x=y))):=by
 refine aA.bF (aA.body 8 [.tmp 4] Tryz.func253 rfl rfl rfl rfl ?_)
 have hm:=uY x y
 repeat' (first|(with_reducible first|(refine wN fun _ hnl=>?_;revert hnl;(repeat refine wS fun _ _=>?_);intro hnl)|refine wE ?_|(refine wK ?_ ?_<;>intro h)|(refine wB ?_ ?_<;>intro h<;>simp only[h]))|simp(maxSteps:=4000000) (disch:=first|exact ddL|fail) only[go_sem,simprocAttr,Tryz.f253,FXs,hm])
 all_goals first|exact⟨_,St.le_refl _,rfl⟩|exact⟨_,St.le_refl _⟩
theorem Lw(a b:List CA)(hl:a.length≤1000000):aA Tryz.prog 171 [.lst 27 (a.map CA.c) false,.lst 27 (b.map CA.c) false] St.none (fun r _=>r=.bool (decide (a=b))):=by
 refine(aA.body 8 [.tmp 4] Tryz.func171 rfl rfl rfl rfl ?_)
 have h:=Fi a b hl (fun x y _ _=>IN x y) false false
 repeat' (first|(with_reducible first|refine up h ?_)|(with_reducible first|(refine wN fun _ hnl=>?_;revert hnl;(repeat refine wS fun _ _=>?_);intro hnl)|refine wE ?_|(refine wK ?_ ?_<;>intro h)|(refine wB ?_ ?_<;>intro h<;>simp only[h]))|simp(maxSteps:=4000000) (disch:=first|exact ddL|fail) only[go_sem,simprocAttr,Tryz.f171])
theorem IW(x y:GR)(hx:x.mem.length≤1000000):aA Tryz.prog 255 [.agg x.c,.agg y.c] St.none (fun r _=>r=.bool (decide (x=y))):=by
 refine aA.bF (aA.body 17 [.tmp 4] Tryz.func255 rfl rfl rfl rfl ?_)
 have c1:=rV x.mem y.mem hx false false
 obtain⟨res,hres⟩:∃r,decide (x=y)=r:=⟨_,rfl⟩
 have e:Unit→decide (x.no=y.no∧x.mem=y.mem)=res:=fun _=>by
  rw[←hres]
  exact decide_eq_decide.mpr J6.symm
 rw[hres]
 clear hres
 repeat' (first|(with_reducible first|refine up c1 ?_)|(with_reducible first|(refine wN fun _ hnl=>?_;revert hnl;(repeat refine wS fun _ _=>?_);intro hnl)|refine wE ?_|(refine wK ?_ ?_<;>intro h)|(refine wB ?_ ?_<;>intro h<;>simp only[h]))|simp(maxSteps:=4000000) (disch:=first|exact ddL|fail) only[go_sem,simprocAttr,Tryz.f255])
 all_goals first|refine⟨_,St.le_refl _,?_⟩|skip
 all_goals rw[←e ()]
 all_goals clear e
 all_goals simp[*]
theorem Lx(a b:List GR)(hl:a.length≤1000000)(hm:∀g,g∈a→g.mem.length≤1000000):aA Tryz.prog 173 [.lst 2 (a.map GR.c) false,.lst 2 (b.map GR.c) false] St.none (fun r _=>r=.bool (decide (a=b))):=by
 refine(aA.body 8 [.tmp 4] Tryz.func173 rfl rfl rfl rfl ?_)
 have h:=Fj a b hl (fun x y hx _=>IW x y (hm x hx)) false false
 repeat' (first|(with_reducible first|refine up h ?_)|(with_reducible first|(refine wN fun _ hnl=>?_;revert hnl;(repeat refine wS fun _ _=>?_);intro hnl)|refine wE ?_|(refine wK ?_ ?_<;>intro h)|(refine wB ?_ ?_<;>intro h<;>simp only[h]))|simp(maxSteps:=4000000) (disch:=first|exact ddL|fail) only[go_sem,simprocAttr,Tryz.f173])
theorem IY(x y:SU)(hx:x.fl.length≤1000000∧x.mem.length≤1000000∧x.log.length≤1000000)(hy:y.fl.length≤1000000):aA Tryz.prog 175 [.agg x.c,.agg y.c] St.none (fun r _=>r=.bool (decide (x=y))):=by
 refine aA.bF (aA.body 53 [.tmp 4] Tryz.func175 rfl rfl rfl rfl ?_)
 obtain⟨x1,x2,x3⟩:=hx
 have c1:=oU x.fl y.fl x1 hy false false
 have c2:=rV x.mem y.mem x2 false false
 have c3:=IS x.log y.log x3 false false
 have e1:(dK (mH x.fl y.fl)=0)↔x.fl=y.fl:=by rw[lB,tM]
 obtain⟨o,ho⟩:∃o,dK (mH x.fl y.fl)=o:=⟨_,rfl⟩
 rw[ho] at c1 e1
 obtain⟨res,hres⟩:∃r,decide (x=y)=r:=⟨_,rfl⟩
 have e:Unit→decide (x.dev=y.dev∧x.ep=y.ep∧(x.mask.toNat:Int)=(y.mask.toNat:Int)∧x.floor=y.floor∧o=0∧x.mem=y.mem∧x.log=y.log)=res:=fun _=>by
  rw[←hres]
  refine decide_eq_decide.mpr ?_
  rw[L8,e1,GX]
  constructor
  ·rintro⟨h1,h2,h3,h4,h5,h6,h7⟩
   exact⟨h1,h2,h5,h3,h4,h6,h7⟩
  ·rintro⟨h1,h2,h3,h4,h5,h6,h7⟩
   exact⟨h1,h2,h4,h5,h3,h6,h7⟩
 rw[hres]
 clear hres e1 ho
 repeat' (first|(with_reducible first|refine up c1 ?_|refine up c2 ?_|refine up c3 ?_)|(with_reducible first|(refine wN fun _ hnl=>?_;revert hnl;(repeat refine wS fun _ _=>?_);intro hnl)|refine wE ?_|(refine wK ?_ ?_<;>intro h)|(refine wB ?_ ?_<;>intro h<;>simp only[h]))|simp(maxSteps:=4000000) (disch:=first|exact ddL|fail) only[go_sem,simprocAttr,Tryz.f175])
 all_goals first|refine⟨_,St.le_refl _,?_⟩|skip
 all_goals rw[←e ()]
 all_goals clear e
 all_goals simp[*]
theorem Ly(a b:List SU)(hl:a.length≤1000000)(ha:SuF a)(hb:SuF b):aA Tryz.prog 89 [.lst 7 (a.map SU.c) false,.lst 7 (b.map SU.c) false] St.none (fun r _=>r=.bool (decide (a=b))):=by
 refine(aA.body 8 [.tmp 4] Tryz.func89 rfl rfl rfl rfl ?_)
 have h:=Fl a b hl (fun x y hx hy=>IY x y (ha x hx) (hb y hy).1) false false
 repeat' (first|(with_reducible first|refine up h ?_)|(with_reducible first|(refine wN fun _ hnl=>?_;revert hnl;(repeat refine wS fun _ _=>?_);intro hnl)|refine wE ?_|(refine wK ?_ ?_<;>intro h)|(refine wB ?_ ?_<;>intro h<;>simp only[h]))|simp(maxSteps:=4000000) (disch:=first|exact ddL|fail) only[go_sem,simprocAttr,Tryz.f89])
theorem A8(a b:BK)(h1:a.cards.length≤1000000)(h2:a.dead.length≤1000000)(h3:a.gr.length≤1000000)(h4:∀g,g∈a.gr→g.mem.length≤1000000):aA Tryz.prog 88 [.agg a.c,.agg b.c] St.none (fun r _=>r=.bool (decide (a=b))):=by
 refine aA.bF (aA.body 38 [.tmp 4] Tryz.func88 rfl rfl rfl rfl ?_)
 have c1:=Lw a.cards b.cards h1
 have c2:=IQ a.dead b.dead h2 false false
 have c3:=Lx a.gr b.gr h3 h4
 obtain⟨res,hres⟩:∃r,decide (a=b)=r:=⟨_,rfl⟩
 have e:Unit→decide (a.sq=b.sq∧a.nx=b.nx∧a.cards=b.cards∧a.dead=b.dead∧a.gr=b.gr)=res:=fun _=>by
  rw[←hres]
  exact decide_eq_decide.mpr JN.symm
 rw[hres]
 clear hres
 repeat' (first|(with_reducible first|refine up c1 ?_|refine up c2 ?_|refine up c3 ?_)|(with_reducible first|(refine wN fun _ hnl=>?_;revert hnl;(repeat refine wS fun _ _=>?_);intro hnl)|refine wE ?_|(refine wK ?_ ?_<;>intro h)|(refine wB ?_ ?_<;>intro h<;>simp only[h]))|simp(maxSteps:=4000000) (disch:=first|exact ddL|fail) only[go_sem,simprocAttr,Tryz.f88])
 all_goals first|refine⟨_,St.le_refl _,?_⟩|skip
 all_goals rw[←e ()]
 all_goals clear e
 all_goals simp[*]
theorem qQ(a b:SA)(h:SaF a)(h':SaF b):aA Tryz.prog 18 [.agg a.c,.agg b.c] St.none (fun r _=>r=.bool (decide (a=b))):=by
 refine aA.bF (aA.body 65 [.tmp 4] Tryz.func18 rfl rfl rfl rfl ?_)
 have c1:=A8 a.bk b.bk h.nc h.nd h.ng h.nm
 have c2:=Ly a.subs b.subs h.ns h.sf h'.sf
 have hnr:=h.nr
 obtain⟨b1,hb1⟩:∃z,decide (a.bk=b.bk)=z:=⟨_,rfl⟩
 obtain⟨b2,hb2⟩:∃z,decide (a.subs=b.subs)=z:=⟨_,rfl⟩
 rw[hb1] at c1
 rw[hb2] at c2
 by_cases hok:b1=true∧b2=true∧a.rows.length=b.rows.length
 rotate_left
 ·have hne:a≠b:=fun e=>by
   subst e
   exact hok ⟨by rw[←hb1];simp,by rw[←hb2];simp,rfl⟩
  rw[decide_eq_false hne]
  clear hb1 hb2 hne
  cases b1<;>cases b2
  all_goals
   repeat' (first|(with_reducible first|refine up c1 ?_|refine up c2 ?_)|(with_reducible first|(refine wT ?_;(first|((fail_if_success (have:=nl1));refine wN fun nl1 hnl=>?_)|((fail_if_success (have:=nl2));refine wN fun nl2 hnl=>?_)|refine wN fun _ hnl=>?_);revert hnl;(repeat refine wS fun _ _=>?_);intro hnl)|refine wE ?_|(refine wK ?_ ?_<;>intro h)|(refine wB ?_ ?_<;>intro h<;>simp only[h]))|simp(maxSteps:=4000000) (disch:=first|exact ddL|fail) only[go_sem,simprocAttr,Tryz.f18])
   all_goals first|exact⟨_,St.le_refl _,rfl⟩|exact⟨_,St.le_refl _⟩|(exfalso;simp at hok;omega)
 ·obtain⟨rfl,rfl,hlen⟩:=hok
  have g1:a.bk=b.bk:=by simpa using hb1
  have g2:a.subs=b.subs:=by simpa using hb2
  repeat' (first|(with_reducible first|refine up c1 ?_|refine up c2 ?_)|(with_reducible first|(refine wT ?_;(first|((fail_if_success (have:=nl1));refine wN fun nl1 hnl=>?_)|((fail_if_success (have:=nl2));refine wN fun nl2 hnl=>?_)|refine wN fun _ hnl=>?_);revert hnl;(repeat refine wS fun _ _=>?_);intro hnl)|refine wE ?_|(refine wK ?_ ?_<;>intro h)|(refine wB ?_ ?_<;>intro h<;>simp only[h]))|simp(maxSteps:=4000000) (disch:=first|exact ddL|fail) only[go_sem,simprocAttr,Tryz.f18])
  all_goals (try (exfalso;omega))
  refine aD (α:=Nat) (fun i=>⟨65,[(34,.int .i64 (i:Int)),(33,.int .i64 (a.rows.length:Int)),(32,.lst 12 (a.rows.map RW.c) false),(3,.ptr nl2 0 0)],[]⟩) (fun _=>St.none.set nl2 (.row 30 7 [b.c])) (fun i=>i≤a.rows.length∧a.rows.take i=b.rows.take i) (fun i=>a.rows.length - i) (.of (.less ?_ (St.aL (St.none_le _) (by simp[St.set]))) ⟨0,rfl,rfl,Nat.zero_le _,rfl⟩) ?_
  ·simp(maxSteps:=4000000) (disch:=first|exact ddL|fail) only[go_sem,simprocAttr,aC,aB]
   all_goals first|rfl|(simp;done)
  ·rintro i ⟨hi,hq⟩
   by_cases hlt:i<a.rows.length
   ·obtain⟨x,hx⟩:=bC a.rows hlt
    obtain⟨y,hy⟩:=bC b.rows (by omega:i<b.rows.length)
    have hat:=aV (f:=RW.c) hx
    have hbt:=aV (f:=RW.c) hy
    have hs:=sQ x.ans y.ans (h.nf x (bR hx)) (h'.nf y (bR hy))
    obtain⟨sb,hsb⟩:∃z,decide (x.ans=y.ans)=z:=⟨_,rfl⟩
    rw[hsb] at hs
    by_cases he:x.last=y.last∧x.ep=y.ep∧sb=true
    ·obtain⟨k1,k2,rfl⟩:=he
     have he:x=y:=LP.2 ⟨k1,k2,by simpa using hsb⟩
     have hnext:a.rows.take (i+1)=b.rows.take (i+1):=by rw[aO hx,aO hy,hq,he]
     repeat' (first|(with_reducible first|refine up hs ?_)|(with_reducible first|(refine wT ?_;(first|((fail_if_success (have:=nl1));refine wN fun nl1 hnl=>?_)|((fail_if_success (have:=nl2));refine wN fun nl2 hnl=>?_)|refine wN fun _ hnl=>?_);revert hnl;(repeat refine wS fun _ _=>?_);intro hnl)|refine wE ?_|(refine wK ?_ ?_<;>intro h)|(refine wB ?_ ?_<;>intro h<;>simp only[h]))|simp(maxSteps:=4000000) (disch:=first|exact ddL|fail) only[go_sem,simprocAttr,hat,hbt])
     all_goals (try (exfalso;omega))
     all_goals
      refine .of (.less ?_ (St.aL (St.none_le _) (by simp[St.set, *]))) ⟨i+1,rfl,rfl,⟨by omega,hnext⟩,by omega⟩
      simp(maxSteps:=4000000) (disch:=first|exact ddL|fail) only[go_sem,simprocAttr,aC,aB]
      all_goals first|rfl|(simp;done)
    ·have hne:a≠b:=fun e=>by
      subst e
      rw[hx] at hy
      cases hy
      exact he ⟨rfl,rfl,by rw[←hsb];simp⟩
     rw[decide_eq_false hne]
     cases sb
     ·repeat' (first|(with_reducible first|refine up hs ?_)|(with_reducible first|(refine wT ?_;(first|((fail_if_success (have:=nl1));refine wN fun nl1 hnl=>?_)|((fail_if_success (have:=nl2));refine wN fun nl2 hnl=>?_)|refine wN fun _ hnl=>?_);revert hnl;(repeat refine wS fun _ _=>?_);intro hnl)|refine wE ?_|(refine wK ?_ ?_<;>intro h)|(refine wB ?_ ?_<;>intro h<;>simp only[h]))|simp(maxSteps:=4000000) (disch:=first|exact ddL|fail) only[go_sem,simprocAttr,hat,hbt])
      all_goals first|exact⟨_,St.le_refl _,rfl⟩|exact⟨_,St.le_refl _⟩|(exfalso;omega)
     ·have he':¬(x.last=y.last∧x.ep=y.ep):=fun e=>he ⟨e.1,e.2,rfl⟩
      clear he
      repeat' (first|(with_reducible first|refine up hs ?_)|(with_reducible first|(refine wT ?_;(first|((fail_if_success (have:=nl1));refine wN fun nl1 hnl=>?_)|((fail_if_success (have:=nl2));refine wN fun nl2 hnl=>?_)|refine wN fun _ hnl=>?_);revert hnl;(repeat refine wS fun _ _=>?_);intro hnl)|refine wE ?_|(refine wK ?_ ?_<;>intro h)|(refine wB ?_ ?_<;>intro h<;>simp only[h]))|simp(maxSteps:=4000000) (disch:=first|exact ddL|fail) only[go_sem,simprocAttr,hat,hbt])
      all_goals first|exact⟨_,St.le_refl _,rfl⟩|exact⟨_,St.le_refl _⟩|(exfalso;omega)
   ·have:i=a.rows.length:=by omega
    subst this
    have he:a.rows=b.rows:=by
     rw[List.take_length,hlen,List.take_length] at hq
     exact hq
    rw[decide_eq_true (LQ.2 ⟨g1,g2,he⟩)]
    repeat' (first|(with_reducible first|(refine wT ?_;(first|((fail_if_success (have:=nl1));refine wN fun nl1 hnl=>?_)|((fail_if_success (have:=nl2));refine wN fun nl2 hnl=>?_)|refine wN fun _ hnl=>?_);revert hnl;(repeat refine wS fun _ _=>?_);intro hnl)|refine wE ?_|(refine wK ?_ ?_<;>intro h)|(refine wB ?_ ?_<;>intro h<;>simp only[h]))|simp(maxSteps:=4000000) (disch:=first|exact ddL|fail) only[go_sem,simprocAttr])
    all_goals first|exact⟨_,St.le_refl _,rfl⟩|exact⟨_,St.le_refl _⟩
end

section
set_option maxRecDepth 100000
set_option maxHeartbeats 8000000
def Small(p:Prop)(r:MV):Prop:=∃b:Bool,r=.bool b∧(b=false→p)
theorem gW{p:Prop}:Small p (.bool true):=⟨true,rfl,fun h=>by cases h⟩
theorem tV{p:Prop}(h:p):Small p (.bool false):=⟨false,rfl,fun _=>h⟩
theorem Mp(l:List GR)(tt:Bool):aA Tryz.prog 153 [.lst 2 (l.map GR.c) tt] St.none (fun r _=>Small (l.length≤1000000∧∀g,g∈l→g.mem.length≤1000000) r):=by
 refine aA.bF (aA.body 20 [.tmp 2] Tryz.func153 rfl rfl rfl rfl ?_)
 repeat' (first|(with_reducible first|(refine wN fun _ hnl=>?_;revert hnl;(repeat refine wS fun _ _=>?_);intro hnl)|refine wE ?_|(refine wK ?_ ?_<;>intro h)|(refine wB ?_ ?_<;>intro h<;>simp only[h]))|simp(maxSteps:=4000000) (disch:=first|exact ddL|fail) only[go_sem,simprocAttr,Tryz.f153])
 all_goals first|exact⟨_,St.le_refl _,gW⟩|skip
 refine aD (α:=Nat) (fun i=>⟨20,[(3,.int .i64 (i:Int)),(0,.lst 2 (l.map GR.c) tt)],[]⟩) (fun _=>St.none) (fun i=>i≤l.length∧∀g,g∈l.take i→g.mem.length≤1000000) (fun i=>l.length - i) (.of (.less ?_ (St.le_refl _)) ⟨0,rfl,rfl,Nat.zero_le _,by simp⟩) ?_
 ·simp(maxSteps:=4000000) (disch:=first|exact ddL|fail) only[go_sem,simprocAttr,aC,aB]
  all_goals first|rfl|(simp;done)
 ·rintro i ⟨hi,hq⟩
  by_cases hlt:i<l.length
  ·obtain⟨x,hx⟩:=bC l hlt
   have hat:=aV (f:=GR.c) hx
   repeat' (first|(with_reducible first|(refine wN fun _ hnl=>?_;revert hnl;(repeat refine wS fun _ _=>?_);intro hnl)|refine wE ?_|(refine wK ?_ ?_<;>intro h)|(refine wB ?_ ?_<;>intro h<;>simp only[h]))|simp(maxSteps:=4000000) (disch:=first|exact ddL|fail) only[go_sem,simprocAttr,hat])
   all_goals first|exact⟨_,St.le_refl _,gW⟩|skip
   all_goals (try (exfalso;omega))
   all_goals
    refine .of (.less ?_ (St.le_refl _)) ⟨i+1,rfl,rfl,⟨by omega,fun g hg=>?_⟩,by omega⟩
    ·simp(maxSteps:=4000000) (disch:=first|exact ddL|fail) only[go_sem,simprocAttr,aC,aB]
     all_goals first|rfl|(simp;done)
    ·rw[aO hx,List.mem_append,List.mem_singleton] at hg
     rcases hg with hg|rfl
     ·exact hq g hg
     ·omega
  ·have:i=l.length:=by omega
   subst this
   rw[List.take_length] at hq
   repeat' (first|(with_reducible first|(refine wN fun _ hnl=>?_;revert hnl;(repeat refine wS fun _ _=>?_);intro hnl)|refine wE ?_|(refine wK ?_ ?_<;>intro h)|(refine wB ?_ ?_<;>intro h<;>simp only[h]))|simp(maxSteps:=4000000) (disch:=first|exact ddL|fail) only[go_sem,simprocAttr])
   all_goals exact⟨_,St.le_refl _,tV ⟨by omega,hq⟩⟩
theorem Mm(B:BK):aA Tryz.prog 73 [.agg B.c] St.none (fun r _=>Small (B.cards.length≤60∧B.dead.length≤60∧B.gr.length≤1000000∧∀g,g∈B.gr→g.mem.length≤1000000) r):=by
 refine aA.bF (aA.body 33 [.tmp 2] Tryz.func73 rfl rfl rfl rfl ?_)
 have hg:=Mp B.gr false
 repeat' (first|((refine eT hg ?_;rintro _ ⟨gb,rfl,hgb⟩))|(with_reducible first|(refine wT ?_;(first|((fail_if_success (have:=nl1));refine wN fun nl1 hnl=>?_)|refine wN fun _ hnl=>?_);revert hnl;(repeat refine wS fun _ _=>?_);intro hnl)|refine wE ?_|(refine wK ?_ ?_<;>intro h)|(refine wB ?_ ?_<;>intro h<;>simp only[h]))|simp(maxSteps:=4000000) (disch:=first|exact ddL|fail) only[go_sem,simprocAttr,Tryz.f73])
 all_goals first|exact⟨_,St.le_refl _,gW⟩|skip
 all_goals (try (exfalso;omega))
 all_goals
  refine aD (α:=Nat) (fun i=>⟨33,[(3,.int .i64 (i:Int)),(1,.ptr nl1 0 0)],[]⟩) (fun _=>St.none.set nl1 (.row 26 5 [B.c])) (fun i=>i≤B.cards.length) (fun i=>B.cards.length - i) (.of (.less ?_ (St.le_refl _)) ⟨0,rfl,rfl,Nat.zero_le _⟩) ?_
  ·simp(maxSteps:=4000000) (disch:=first|exact ddL|fail) only[go_sem,simprocAttr,aC,aB]
   all_goals first|rfl|(simp;done)
  ·intro i hi
   have hi:i≤B.cards.length:=hi
   by_cases hlt:i<B.cards.length
   ·obtain⟨x,hx⟩:=bC B.cards hlt
    have hat:=aV (f:=CA.c) hx
    have hc:=qO x.f
    repeat' (first|(with_reducible first|refine up hc ?_)|(with_reducible first|(refine wT ?_;(first|((fail_if_success (have:=nl1));refine wN fun nl1 hnl=>?_)|refine wN fun _ hnl=>?_);revert hnl;(repeat refine wS fun _ _=>?_);intro hnl)|refine wE ?_|(refine wK ?_ ?_<;>intro h)|(refine wB ?_ ?_<;>intro h<;>simp only[h]))|simp(maxSteps:=4000000) (disch:=first|exact ddL|fail) only[go_sem,simprocAttr,FXs,hat])
    all_goals first|exact⟨_,St.le_refl _,gW⟩|skip
    all_goals (try (exfalso;omega))
    all_goals
     refine .of (.less ?_ (St.le_refl _)) ⟨i+1,rfl,rfl,(by omega:i+1≤B.cards.length),by omega⟩
     simp(maxSteps:=4000000) (disch:=first|exact ddL|fail) only[go_sem,simprocAttr,aC,aB]
     all_goals first|rfl|(simp;done)
   ·have:i=B.cards.length:=by omega
    subst this
    repeat' (first|(with_reducible first|(refine wT ?_;(first|((fail_if_success (have:=nl1));refine wN fun nl1 hnl=>?_)|refine wN fun _ hnl=>?_);revert hnl;(repeat refine wS fun _ _=>?_);intro hnl)|refine wE ?_|(refine wK ?_ ?_<;>intro h)|(refine wB ?_ ?_<;>intro h<;>simp only[h]))|simp(maxSteps:=4000000) (disch:=first|exact ddL|fail) only[go_sem,simprocAttr])
    all_goals exact⟨_,St.le_refl _,tV ⟨by omega,by omega,hgb (by simp_all)⟩⟩
theorem Mt(l:List TU)(tt:Bool):aA Tryz.prog 75 [.lst 31 (l.map TU.c) tt] St.none (fun r _=>Small (l.length≤100) r):=by
 refine aA.bF (aA.body 20 [.tmp 2] Tryz.func75 rfl rfl rfl rfl ?_)
 repeat' (first|(with_reducible first|(refine wN fun _ hnl=>?_;revert hnl;(repeat refine wS fun _ _=>?_);intro hnl)|refine wE ?_|(refine wK ?_ ?_<;>intro h)|(refine wB ?_ ?_<;>intro h<;>simp only[h]))|simp(maxSteps:=4000000) (disch:=first|exact ddL|fail) only[go_sem,simprocAttr,Tryz.f75])
 all_goals first|exact⟨_,St.le_refl _,gW⟩|skip
 refine aD (α:=Nat) (fun i=>⟨20,[(3,.int .i64 (i:Int)),(0,.lst 31 (l.map TU.c) tt)],[]⟩) (fun _=>St.none) (fun i=>i≤l.length) (fun i=>l.length - i) (.of (.less ?_ (St.le_refl _)) ⟨0,rfl,rfl,Nat.zero_le _⟩) ?_
 ·simp(maxSteps:=4000000) (disch:=first|exact ddL|fail) only[go_sem,simprocAttr,aC,aB]
  all_goals first|rfl|(simp;done)
 ·intro i hi
  have hi:i≤l.length:=hi
  by_cases hlt:i<l.length
  ·obtain⟨x,hx⟩:=bC l hlt
   have hat:=aV (f:=TU.c) hx
   have hc:=qO x.card.f
   repeat' (first|(with_reducible first|refine up hc ?_)|(with_reducible first|(refine wN fun _ hnl=>?_;revert hnl;(repeat refine wS fun _ _=>?_);intro hnl)|refine wE ?_|(refine wK ?_ ?_<;>intro h)|(refine wB ?_ ?_<;>intro h<;>simp only[h]))|simp(maxSteps:=4000000) (disch:=first|exact ddL|fail) only[go_sem,simprocAttr,FXs,hat])
   all_goals first|exact⟨_,St.le_refl _,gW⟩|skip
   all_goals (try (exfalso;omega))
   all_goals
    refine .of (.less ?_ (St.le_refl _)) ⟨i+1,rfl,rfl,(by omega:i+1≤l.length),by omega⟩
    simp(maxSteps:=4000000) (disch:=first|exact ddL|fail) only[go_sem,simprocAttr,aC,aB]
    all_goals first|rfl|(simp;done)
  ·have:i=l.length:=by omega
   subst this
   repeat' (first|(with_reducible first|(refine wN fun _ hnl=>?_;revert hnl;(repeat refine wS fun _ _=>?_);intro hnl)|refine wE ?_|(refine wK ?_ ?_<;>intro h)|(refine wB ?_ ?_<;>intro h<;>simp only[h]))|simp(maxSteps:=4000000) (disch:=first|exact ddL|fail) only[go_sem,simprocAttr])
   all_goals exact⟨_,St.le_refl _,tV (by omega)⟩
theorem Aa(s:SA):aA Tryz.prog 14 [.agg s.c] St.none (fun r _=>Small (SaF s) r):=by
 refine aA.bF (aA.body 68 [.tmp 2] Tryz.func14 rfl rfl rfl rfl ?_)
 have hb:=Mm s.bk
 repeat' (first|((refine eT hb ?_;rintro _ ⟨bb,rfl,hbb⟩))|(with_reducible first|(refine wT ?_;(first|((fail_if_success (have:=nl1));refine wN fun nl1 hnl=>?_)|refine wN fun _ hnl=>?_);revert hnl;(repeat refine wS fun _ _=>?_);intro hnl)|refine wE ?_|(refine wK ?_ ?_<;>intro h)|(refine wB ?_ ?_<;>intro h<;>simp only[h]))|simp(maxSteps:=4000000) (disch:=first|exact ddL|fail) only[go_sem,simprocAttr,Tryz.f14])
 all_goals first|exact⟨_,St.le_refl _,gW⟩|skip
 all_goals (try (exfalso;omega))
 all_goals
  refine aD (α:=Nat) (fun i=>⟨68,[(3,.int .i64 (i:Int)),(1,.ptr nl1 0 0)],[]⟩) (fun _=>St.none.set nl1 (.row 30 7 [s.c])) (fun i=>i≤s.subs.length∧∀x,x∈s.subs.take i→x.fl.length≤1000000∧x.mem.length≤1000000∧x.log.length≤1000000) (fun i=>s.subs.length - i) (.of (.less ?_ (St.le_refl _)) ⟨0,rfl,rfl,Nat.zero_le _,by simp⟩) ?_
  ·simp(maxSteps:=4000000) (disch:=first|exact ddL|fail) only[go_sem,simprocAttr,aC,aB]
   all_goals first|rfl|(simp;done)
  ·rintro i ⟨hi,hq⟩
   by_cases hlt:i<s.subs.length
   ·obtain⟨x,hx⟩:=bC s.subs hlt
    have hat:=aV (f:=SU.c) hx
    have hl:=sW x.fl false
    have ht:=Mt x.log false
    obtain⟨lb,hlb⟩:∃b,lU x.fl=b:=⟨_,rfl⟩
    rw[hlb] at hl
    cases lb
    ·have hfl:x.fl.length≤100:=by
      unfold lU at hlb
      simp only[Bool.or_eq_false_iff,decide_eq_false_iff_not] at hlb
      omega
     repeat' (first|((refine eT ht ?_;rintro _ ⟨tb,rfl,htb⟩))|(with_reducible first|refine up hl ?_)|(with_reducible first|(refine wT ?_;(first|((fail_if_success (have:=nl1));refine wN fun nl1 hnl=>?_)|refine wN fun _ hnl=>?_);revert hnl;(repeat refine wS fun _ _=>?_);intro hnl)|refine wE ?_|(refine wK ?_ ?_<;>intro h)|(refine wB ?_ ?_<;>intro h<;>simp only[h]))|simp(maxSteps:=4000000) (disch:=first|exact ddL|fail) only[go_sem,simprocAttr,hat])
     all_goals first|exact⟨_,St.le_refl _,gW⟩|skip
     all_goals (try (exfalso;omega))
     all_goals
      have htl:x.log.length≤100:=htb (by simp_all)
      refine .of (.less ?_ (St.le_refl _)) ⟨i+1,rfl,rfl,⟨by omega,fun y hy=>?_⟩,by omega⟩
      ·simp(maxSteps:=4000000) (disch:=first|exact ddL|fail) only[go_sem,simprocAttr,aC,aB]
       all_goals first|rfl|(simp;done)
      ·rw[aO hx,List.mem_append,List.mem_singleton] at hy
       rcases hy with hy|rfl
       ·exact hq y hy
       ·exact⟨by omega,by omega,by omega⟩
    ·repeat' (first|((refine eT ht ?_;rintro _ ⟨tb,rfl,htb⟩))|(with_reducible first|refine up hl ?_)|(with_reducible first|(refine wT ?_;(first|((fail_if_success (have:=nl1));refine wN fun nl1 hnl=>?_)|refine wN fun _ hnl=>?_);revert hnl;(repeat refine wS fun _ _=>?_);intro hnl)|refine wE ?_|(refine wK ?_ ?_<;>intro h)|(refine wB ?_ ?_<;>intro h<;>simp only[h]))|simp(maxSteps:=4000000) (disch:=first|exact ddL|fail) only[go_sem,simprocAttr,hat])
     all_goals first|exact⟨_,St.le_refl _,gW⟩|skip
   ·have:i=s.subs.length:=by omega
    subst this
    rw[List.take_length] at hq
    repeat' (first|(with_reducible first|(refine wT ?_;(first|((fail_if_success (have:=nl1));refine wN fun nl1 hnl=>?_)|refine wN fun _ hnl=>?_);revert hnl;(repeat refine wS fun _ _=>?_);intro hnl)|refine wE ?_|(refine wK ?_ ?_<;>intro h)|(refine wB ?_ ?_<;>intro h<;>simp only[h]))|simp(maxSteps:=4000000) (disch:=first|exact ddL|fail) only[go_sem,simprocAttr])
    refine aD (α:=Nat) (fun i=>⟨68,[(4,.int .i64 (i:Int)),(1,.ptr nl1 0 0)],[]⟩) (fun _=>St.none.set nl1 (.row 30 7 [s.c])) (fun i=>i≤s.rows.length∧∀x,x∈s.rows.take i→x.ans.fl.length≤1000000) (fun i=>s.rows.length - i) (.of (.less ?_ (St.le_refl _)) ⟨0,rfl,rfl,Nat.zero_le _,by simp⟩) ?_
    ·simp(maxSteps:=4000000) (disch:=first|exact ddL|fail) only[go_sem,simprocAttr,aC,aB]
     all_goals first|rfl|(simp;done)
    ·rintro i ⟨hi,hr⟩
     by_cases hlt:i<s.rows.length
     ·obtain⟨x,hx⟩:=bC s.rows hlt
      have hat:=aV (f:=RW.c) hx
      have hl:=sW x.ans.fl false
      obtain⟨lb,hlb⟩:∃b,lU x.ans.fl=b:=⟨_,rfl⟩
      rw[hlb] at hl
      cases lb
      ·have hfl:x.ans.fl.length≤100:=by
        unfold lU at hlb
        simp only[Bool.or_eq_false_iff,decide_eq_false_iff_not] at hlb
        omega
       repeat' (first|(with_reducible first|refine up hl ?_)|(with_reducible first|(refine wT ?_;(first|((fail_if_success (have:=nl1));refine wN fun nl1 hnl=>?_)|refine wN fun _ hnl=>?_);revert hnl;(repeat refine wS fun _ _=>?_);intro hnl)|refine wE ?_|(refine wK ?_ ?_<;>intro h)|(refine wB ?_ ?_<;>intro h<;>simp only[h]))|simp(maxSteps:=4000000) (disch:=first|exact ddL|fail) only[go_sem,simprocAttr,hat])
       all_goals first|exact⟨_,St.le_refl _,gW⟩|skip
       all_goals (try (exfalso;omega))
       all_goals
        refine .of (.less ?_ (St.le_refl _)) ⟨i+1,rfl,rfl,⟨by omega,fun y hy=>?_⟩,by omega⟩
        ·simp(maxSteps:=4000000) (disch:=first|exact ddL|fail) only[go_sem,simprocAttr,aC,aB]
         all_goals first|rfl|(simp;done)
        ·rw[aO hx,List.mem_append,List.mem_singleton] at hy
         rcases hy with hy|rfl
         ·exact hr y hy
         ·omega
      ·repeat' (first|(with_reducible first|refine up hl ?_)|(with_reducible first|(refine wT ?_;(first|((fail_if_success (have:=nl1));refine wN fun nl1 hnl=>?_)|refine wN fun _ hnl=>?_);revert hnl;(repeat refine wS fun _ _=>?_);intro hnl)|refine wE ?_|(refine wK ?_ ?_<;>intro h)|(refine wB ?_ ?_<;>intro h<;>simp only[h]))|simp(maxSteps:=4000000) (disch:=first|exact ddL|fail) only[go_sem,simprocAttr,hat])
       all_goals first|exact⟨_,St.le_refl _,gW⟩|skip
     ·have:i=s.rows.length:=by omega
      subst this
      rw[List.take_length] at hr
      repeat' (first|(with_reducible first|(refine wT ?_;(first|((fail_if_success (have:=nl1));refine wN fun nl1 hnl=>?_)|refine wN fun _ hnl=>?_);revert hnl;(repeat refine wS fun _ _=>?_);intro hnl)|refine wE ?_|(refine wK ?_ ?_<;>intro h)|(refine wB ?_ ?_<;>intro h<;>simp only[h]))|simp(maxSteps:=4000000) (disch:=first|exact ddL|fail) only[go_sem,simprocAttr])
      have hbb:=hbb (by simp_all)
      all_goals exact⟨_,St.le_refl _,tV ⟨by omega,by omega,hbb.2.2.1,hbb.2.2.2,by omega,hq,by omega,hr⟩⟩
end
end Go.Proofs.YtojmhmejdihaaaaGreatDoor
