/- Parts of the proof, joined; conditions: those that its theorems name. -/
import Derived.Test.YtojmhmejdihaaaaGreatDoorStzk
import Derived.Test.YtojmhmejdihaaaaGreatDoorStzl
set_option linter.unusedVariables false
set_option linter.unusedSimpArgs false
set_option maxHeartbeats 4000000
namespace Go.Proofs.YtojmhmejdihaaaaGreatDoor
section
set_option maxRecDepth 100000
set_option maxHeartbeats 8000000
theorem yS{B:BK}(h1:B.cards.length≤1000000)(h2:B.dead.length≤1000000)(h3:B.gr.length≤1000000)(h4:∀g,g∈B.gr→g.mem.length≤1000000)(h:iQ B=true) :
  aA Tryz.prog 25 [.agg B.c] St.none (fun v σ'=>∃m l q b ex,pU m l q b∧v=.tup [.ptr b 0 0,.bool true]∧σ'=bkS m l q b B ex) :=
 (sH B h1 h2 h3 h4).mono fun v σ' q=>by
  rcases q with⟨_,q⟩|⟨q,_⟩
  ·exact q
  ·rw[h] at q;cases q
theorem G7{B:BK}(h1:B.cards.length≤1000000)(h2:B.dead.length≤1000000)(h3:B.gr.length≤1000000)(h4:∀g,g∈B.gr→g.mem.length≤1000000)(h:iQ B=false) :
  aA Tryz.prog 25 [.agg B.c] St.none (fun v _=>v=.tup [.nilp,.bool false]) :=
 (sH B h1 h2 h3 h4).mono fun v σ' q=>by
  rcases q with⟨q,_⟩|⟨_,q,_⟩
  ·rw[h] at q;cases q
  ·exact q
theorem Mh{P:Program}{g:FuncId}{ms:List MV}{σ:St}{B:BK}{u:Nat→MV}{k:MV→St→Prop}(h:aA P g ms St.none fun v σ'=>∃m l q b ex,pU m l q b∧v=u b∧σ'=bkS m l q b B ex)
 (hk:∀m l q b ex,σ m=none→σ l=none→σ q=none→σ b=none→pU m l q b→R (cD (u b) ((((σ.set m (.mp (cEs B.cards))).set l (shO B.nx m (.vec 3 q 0 B.dead.length))).set q (.row 166 3 (B.dead.map DE.c++ex))).set b (eW B.sq l (.lst 2 (B.gr.map GR.c) false))) k)):R (dN P g ms σ k) :=
 cR h (St.none_le σ) fun v σ' hv hf=>by
  obtain⟨m,l,q,b,ex,D,rfl,rfl⟩:=hv
  have fr:∀j o,bkS m l q b B ex j=some o→σ j=none:=fun j o hj=>by
   rcases hf j o hj with h|⟨o',h⟩
   ·exact h
   ·simp[St.none] at h
  have fm:=fr m (.mp (cEs B.cards)) (by simp[St.set,Ne.symm D.lm,Ne.symm D.qm,Ne.symm D.bm])
  have fl:=fr l (shO B.nx m (.vec 3 q 0 B.dead.length)) (by simp[St.set,Ne.symm D.ql,Ne.symm D.bl])
  have fq:=fr q (.row 166 3 (B.dead.map DE.c++ex)) (by simp[St.set,Ne.symm D.bq])
  have fb:=fr b _ (aM _ _ _)
  rw[gC,cN,cN,cN,cN,iE]
  exact hk m l q b ex fm fl fq fb D
theorem L9{B:BK}{x:SU}(h:tB B x=true):bM x.fl=0:=by
 unfold tB at h
 simp only[Bool.and_eq_true] at h
 exact nM h.1.2
theorem yD(s:SA)(h:SaF s)(hw:fO s=0)(dev:Int):aA Tryz.prog 21 [.agg s.c,.int .i64 dev] St.none (fun r _=>r=.lst 27 ((jT s dev).map CA.c) false):=by
 refine aA.seen (aA.body 34 [.tmp 4] Tryz.func21 rfl rfl rfl rfl ?_)
 obtain⟨w1,w2,w3,w4⟩:=xE hw
 have hld:=yS h.nc h.nd h.ng h.nm w1
 have hns:=h.ns
 repeat' (first|(with_reducible first|(refine wT ?_;(first|((fail_if_success (have:=nl1));refine wN fun nl1 hnl=>?_)|refine wN fun _ hnl=>?_);revert hnl;(repeat refine wS fun _ _=>?_);intro hnl)|refine wE ?_|(refine wK ?_ ?_<;>intro h)|(refine wB ?_ ?_<;>intro h<;>simp only[h]))|simp(maxSteps:=4000000) (disch:=first|exact ddL|fail) only[go_sem,simprocAttr,Tryz.f21])
 refine aD (α:=Nat) (fun i=>⟨34,[(12,.int .i64 (i:Int)),(11,.int .i64 (s.subs.length:Int)),(10,.lst 7 (s.subs.map SU.c) false),(2,.ptr nl1 0 0),(1,.int .i64 dev)],[]⟩) (fun _=>St.none.set nl1 (.row 30 7 [s.c])) (fun i=>i≤s.subs.length∧∀x,x∈s.subs.take i→x.dev≠dev) (fun i=>s.subs.length - i) (.of (.less ?_ (St.le_refl _)) ⟨0,rfl,rfl,Nat.zero_le _,by simp⟩) ?_
 ·simp(maxSteps:=4000000) (disch:=first|exact ddL|fail) only[go_sem,simprocAttr,aC,aB]
  all_goals first|rfl|(simp;done)
 ·rintro i ⟨hi,hall⟩
  by_cases hlt:i<s.subs.length
  ·obtain⟨x,hx⟩:=bC s.subs hlt
   have hat:=aV (f:=SU.c) hx
   by_cases he:x.dev=dev
   ·have hfind:s.subs.find? (fun x=>decide (x.dev=dev))=some x:=by
     rw[gX s.subs hx,List.find?_append]
     have:(s.subs.take i).find? (fun x=>decide (x.dev=dev))=none:=List.find?_eq_none.2 fun y hy=>by simpa using hall y hy
     rw[this]
     simp[he]
    obtain⟨-,-,ho⟩:=lE w3 x (bR hx)
    have hp:=L9 ho
    have hfl:=pD x.fl (by have:=(tW hp).2.2;omega) false hp
    unfold jT
    rw[hfind]
    unfold eD
    simp only
    have hid:=fun {m l q b f:Nat} (D:pU m l q b) (hf:f≠m∧f≠l∧f≠q∧f≠b) (ex:List (List MV))=>C0 (pY w1) h.ng h.nm D hf ex hp false x.mask 1073741824
    obtain⟨K,hK⟩:∃z,(fZ s.bk x.fl x.mask 1073741824).map CA.c=z:=⟨_,rfl⟩
    rw[hK]
    simp only[hK] at hid
    obtain⟨C,c1⟩:∃C:bP,∀ms,C 26 ms=some ⟨[],fun _=>True,some (flO (.lst 5 (x.fl.map ND.c) false) 0 0 .nilfn,fun l=>.ptr l 0 0)⟩:=⟨fnF [(26,⟨[],fun _=>True,some (flO (.lst 5 (x.fl.map ND.c) false) 0 0 .nilfn,fun l=>.ptr l 0 0)⟩)],fun _=>bN⟩
    repeat' (first|((refine Mh hld ?_;intro m l q b ex hm0 hl0 hq0 hb0 D;have D':=D;obtain⟨d1,d2,d3,d4,d5,d6⟩:=D;have e1:=Ne.symm d1;have e2:=Ne.symm d2;have e3:=Ne.symm d3;have e4:=Ne.symm d4;have e5:=Ne.symm d5;have e6:=Ne.symm d6;have hm1:=hm0;have hl1:=hl0;have hq1:=hq0;have hb1:=hb0;simp only[aY] at hm1 hl1 hq1 hb1;obtain⟨ma,mb,-⟩:=hm1;obtain⟨la,lb,-⟩:=hl1;obtain⟨qa,qb,-⟩:=hq1;obtain⟨ba,bb,-⟩:=hb1;have ma':=Ne.symm ma;have mb':=Ne.symm mb;have la':=Ne.symm la;have lb':=Ne.symm lb;have qa':=Ne.symm qa;have qb':=Ne.symm qb;have ba':=Ne.symm ba;have bb':=Ne.symm bb))|(refine eI mixed C [_,_,_,_,_,_] [_] rfl (by decide +kernel) ?_)|((refine Kg (c1 _) hfl ?_;intro f hf0;have hf1:=hf0;simp only[aY] at hf1;obtain⟨fa,fb,fc',fd,fe,ff,-⟩:=hf1;have fa':=Ne.symm fa;have fb':=Ne.symm fb;have fc'':=Ne.symm fc';have fd':=Ne.symm fd))|(with_reducible first|(refine wT ?_;(first|((fail_if_success (have:=nl1));refine wN fun nl1 hnl=>?_)|refine wN fun _ hnl=>?_);revert hnl;(repeat refine wS fun _ _=>?_);intro hnl)|refine wE ?_|(refine wK ?_ ?_<;>intro h)|(refine wB ?_ ?_<;>intro h<;>simp only[h]))|simp(maxSteps:=4000000) (disch:=first|exact ddL|fail) only[go_sem,simprocAttr,hat])
    all_goals (try (exfalso;omega))
    all_goals
     have hid':=hid D' ⟨fd,fc',fb,fa⟩ ex
     refine cR hid' (St.aL (St.aL (St.aL (St.aL (St.aL (St.none_le _) ?_) ?_) ?_) ?_) ?_) ?_
     ·rw[aH _ _ _ _ fd',aH _ _ _ _ e4,aH _ _ _ _ e2,aH _ _ _ _ e1,aM]
     ·rw[aH _ _ _ _ fc'',aH _ _ _ _ e5,aH _ _ _ _ e3,aM]
     ·rw[aH _ _ _ _ fb',aH _ _ _ _ e6,aM]
     ·rw[aH _ _ _ _ fa',aM]
     ·rw[aM];rfl
     ·rintro v σ' rfl -
      repeat' (first|(with_reducible first|(refine wT ?_;(first|((fail_if_success (have:=nl1));refine wN fun nl1 hnl=>?_)|refine wN fun _ hnl=>?_);revert hnl;(repeat refine wS fun _ _=>?_);intro hnl)|refine wE ?_|(refine wK ?_ ?_<;>intro h)|(refine wB ?_ ?_<;>intro h<;>simp only[h]))|simp(maxSteps:=4000000) (disch:=first|exact ddL|fail) only[go_sem,simprocAttr])
      all_goals exact .same _
   ·repeat' (first|(with_reducible first|(refine wT ?_;(first|((fail_if_success (have:=nl1));refine wN fun nl1 hnl=>?_)|refine wN fun _ hnl=>?_);revert hnl;(repeat refine wS fun _ _=>?_);intro hnl)|refine wE ?_|(refine wK ?_ ?_<;>intro h)|(refine wB ?_ ?_<;>intro h<;>simp only[h]))|simp(maxSteps:=4000000) (disch:=first|exact ddL|fail) only[go_sem,simprocAttr,hat])
    all_goals (try (exfalso;omega))
    all_goals
     refine .of (.less ?_ (St.aL (St.none_le _) (by simp[St.set, *]))) ⟨i+1,rfl,rfl,⟨by omega,fun y hy=>?_⟩,by omega⟩
     ·simp(maxSteps:=4000000) (disch:=first|exact ddL|fail) only[go_sem,simprocAttr,aC,aB]
      all_goals first|rfl|(simp;done)
     ·rw[aO hx,List.mem_append,List.mem_singleton] at hy
      rcases hy with hy|rfl
      ·exact hall y hy
      ·exact he
  ·have:i=s.subs.length:=by omega
   subst this
   rw[List.take_length] at hall
   have hfind:s.subs.find? (fun x=>decide (x.dev=dev))=none:=List.find?_eq_none.2 fun y hy=>by simpa using hall y hy
   unfold jT
   rw[hfind]
   repeat' (first|(with_reducible first|(refine wT ?_;(first|((fail_if_success (have:=nl1));refine wN fun nl1 hnl=>?_)|refine wN fun _ hnl=>?_);revert hnl;(repeat refine wS fun _ _=>?_);intro hnl)|refine wE ?_|(refine wK ?_ ?_<;>intro h)|(refine wB ?_ ?_<;>intro h<;>simp only[h]))|simp(maxSteps:=4000000) (disch:=first|exact ddL|fail) only[go_sem,simprocAttr])
   all_goals exact .nil 27 false
end

section
set_option maxRecDepth 100000
set_option maxHeartbeats 8000000
abbrev stR(s:SA):bE:=.row 30 7 [s.c]
theorem I3{ex:List (List MV)}{s:SA}(h:SaF s)(hb:BkR s.bk){m l q b p o:Nat}(D:pU m l q b)(hp:bkS m l q b s.bk ex p=none)(ho:bkS m l q b s.bk ex o=none)(hop:o≠p) :
  aA Tryz.prog 81 [.ptr p 0 0,.ptr o 0 0] (((bkS m l q b s.bk ex).set p (.row 43 1 [[.ptr b 0 0]])).set o (stR s)) (fun v σ'=>v=.bool (decide (s.subs.length≤4)&&cP s.bk (-1) s.subs)∧σ'=((bkS m l q b s.bk ex).set p (.row 43 1 [[.ptr b 0 0]])).set o (stR s)):=by
 refine(aA.body 13 [.tmp 2] Tryz.func81 rfl rfl rfl rfl ?_)
 have hpo:=Ne.symm hop
 have hs:=Fs hb h.ng h.nm D ex s.subs h.ns h.sf
 generalize (decide (s.subs.length≤4)&&cP s.bk (-1) s.subs)=res at hs ⊢
 have hle:(bkS m l q b s.bk ex).le (((bkS m l q b s.bk ex).set p (.row 43 1 [[.ptr b 0 0]])).set o (stR s)):=St.bQ (St.bQ (St.le_refl _) hp) ho
 repeat' (first|(refine bS hs hle ?_)|(with_reducible first|(refine wN fun _ hnl=>?_;revert hnl;(repeat refine wS fun _ _=>?_);intro hnl)|refine wE ?_|(refine wK ?_ ?_<;>intro h)|(refine wB ?_ ?_<;>intro h<;>simp only[h]))|simp(maxSteps:=4000000) (disch:=first|exact ddL|fail) only[go_sem,simprocAttr,Tryz.f81])
 all_goals exact⟨rfl,rfl⟩
theorem I4(o:Nat){s:SA}(h:SaF s):aA Tryz.prog 83 [.ptr o 0 0] (St.none.set o (stR s)) (fun v σ'=>v=.bool (cE s.rows)∧σ'=St.none.set o (stR s)):=by
 refine(aA.body 11 [.tmp 1] Tryz.func83 rfl rfl rfl rfl ?_)
 have hs:=sM s.rows h.nr h.nf
 repeat' (first|(with_reducible first|refine up hs ?_)|(with_reducible first|(refine wN fun _ hnl=>?_;revert hnl;(repeat refine wS fun _ _=>?_);intro hnl)|refine wE ?_|(refine wK ?_ ?_<;>intro h)|(refine wB ?_ ?_<;>intro h<;>simp only[h]))|simp(maxSteps:=4000000) (disch:=first|exact ddL|fail) only[go_sem,simprocAttr,Tryz.f83])
 all_goals exact⟨rfl,rfl⟩
theorem I5(o:Nat){s:SA}(h:SaF s)(hr6:s.rows.length=6)(hd:∀x,x∈s.subs→0≤x.dev∧x.dev<6):aA Tryz.prog 85 [.ptr o 0 0] (St.none.set o (stR s)) (fun v σ'=>v=.bool (s.subs.all fun x=>decide ((s.rows.getD x.dev.toNat rwZ).ep=x.ep))∧σ'=St.none.set o (stR s)):=by
 refine aA.less (Q':=fun v σ'=>v=.bool (s.subs.all fun x=>decide ((s.rows.getD x.dev.toNat rwZ).ep=x.ep))∧(St.none.set o (stR s)).le σ') (aA.body 22 [.tmp 1] Tryz.func85 rfl rfl rfl rfl ?_) fun v σ' h=>⟨_,h.2,h.1,rfl⟩
 have hns:=h.ns
 obtain⟨res,hres⟩:∃z,(s.subs.all fun x=>decide ((s.rows.getD x.dev.toNat rwZ).ep=x.ep))=z:=⟨_,rfl⟩
 rw[hres]
 repeat' (first|(with_reducible first|(refine wN fun _ hnl=>?_;revert hnl;(repeat refine wS fun _ _=>?_);intro hnl)|refine wE ?_|(refine wK ?_ ?_<;>intro h)|(refine wB ?_ ?_<;>intro h<;>simp only[h]))|simp(maxSteps:=4000000) (disch:=first|exact ddL|fail) only[go_sem,simprocAttr,Tryz.f85])
 refine aD (α:=Nat) (fun i=>⟨22,[(7,.int .i64 (i:Int)),(6,.int .i64 (s.subs.length:Int)),(5,.lst 7 (s.subs.map SU.c) false),(0,.ptr o 0 0)],[]⟩)
  (fun _=>St.none.set o (stR s)) (fun i=>i≤s.subs.length∧∀x,x∈s.subs.take i→(s.rows.getD x.dev.toNat rwZ).ep=x.ep) (fun i=>s.subs.length - i) (.of (.less ?_ (St.le_refl _)) ⟨0,rfl,rfl,Nat.zero_le _,by simp⟩) ?_
 ·simp(maxSteps:=4000000) (disch:=first|exact ddL|fail) only[go_sem,simprocAttr,aC,aB]
  all_goals first|rfl|(simp;done)
 ·rintro i ⟨hi,hall⟩
  by_cases hlt:i<s.subs.length
  ·obtain⟨x,hx⟩:=bC s.subs hlt
   have hat:=aV (f:=SU.c) hx
   obtain⟨dd1,dd2⟩:=hd x (bR hx)
   obtain⟨k,hk⟩:∃k:Nat,x.dev=k:=⟨x.dev.toNat,by omega⟩
   have hatr:(s.rows.map RW.c).getD k []=(s.rows.getD k rwZ).c:=aU rwZ (by omega)
   by_cases he:(s.rows.getD k rwZ).ep=x.ep
   ·have hnew:∀y,y∈s.subs.take (i+1)→(s.rows.getD y.dev.toNat rwZ).ep=y.ep:=fun y hy=>by
     rw[aO hx,List.mem_append,List.mem_singleton] at hy
     rcases hy with hy|rfl
     ·exact hall y hy
     ·rw[hk,Int.toNat_natCast];exact he
    obtain⟨r,hr⟩:∃r,s.rows.getD k rwZ=r:=⟨_,rfl⟩
    rw[hr] at hatr he
    repeat' (first|(with_reducible first|(refine wN fun _ hnl=>?_;revert hnl;(repeat refine wS fun _ _=>?_);intro hnl)|refine wE ?_|(refine wK ?_ ?_<;>intro h)|(refine wB ?_ ?_<;>intro h<;>simp only[h]))|simp(maxSteps:=4000000) (disch:=first|exact ddL|fail) only[go_sem,simprocAttr,hat,hatr,hk])
    all_goals (try (exfalso;omega))
    all_goals
     refine .of (.less ?_ (St.aL (St.none_le _) (by simp[St.set, *]))) ⟨i+1,rfl,rfl,⟨by omega,hnew⟩,by omega⟩
     simp(maxSteps:=4000000) (disch:=first|exact ddL|fail) only[go_sem,simprocAttr,aC,aB]
     all_goals first|rfl|(simp;done)
   ·have hf:(s.subs.all fun x=>decide ((s.rows.getD x.dev.toNat rwZ).ep=x.ep))=false:=List.all_eq_false.2 ⟨x,bR hx,by rw[hk,Int.toNat_natCast,decide_eq_false he];simp⟩
    rw[hf] at hres
    subst hres
    obtain⟨r,hr⟩:∃r,s.rows.getD k rwZ=r:=⟨_,rfl⟩
    rw[hr] at hatr he
    repeat' (first|(with_reducible first|(refine wN fun _ hnl=>?_;revert hnl;(repeat refine wS fun _ _=>?_);intro hnl)|refine wE ?_|(refine wK ?_ ?_<;>intro h)|(refine wB ?_ ?_<;>intro h<;>simp only[h]))|simp(maxSteps:=4000000) (disch:=first|exact ddL|fail) only[go_sem,simprocAttr,hat,hatr,hk])
    all_goals first|exact St.aL (St.none_le _) (by simp[St.set, *])|exact⟨rfl,St.aL (St.none_le _) (by simp[St.set, *])⟩|(exfalso;omega)
  ·have:i=s.subs.length:=by omega
   subst this
   rw[List.take_length] at hall
   rw[List.all_eq_true.2 fun x hx=>decide_eq_true (hall x hx)] at hres
   subst hres
   repeat' (first|(with_reducible first|(refine wN fun _ hnl=>?_;revert hnl;(repeat refine wS fun _ _=>?_);intro hnl)|refine wE ?_|(refine wK ?_ ?_<;>intro h)|(refine wB ?_ ?_<;>intro h<;>simp only[h]))|simp(maxSteps:=4000000) (disch:=first|exact ddL|fail) only[go_sem,simprocAttr])
   all_goals first|exact St.aL (St.none_le _) (by simp[St.set, *])|exact⟨rfl,St.aL (St.none_le _) (by simp[St.set, *])⟩
theorem yE(s:SA)(h:SaF s):aA Tryz.prog 16 [.agg s.c] St.none (fun r _=>r=.int .i64 (fO s)):=by
 refine aA.bF (aA.body 32 [.tmp 2] Tryz.func16 rfl rfl rfl rfl ?_)
 obtain⟨res,hres⟩:∃z,fO s=z:=⟨_,rfl⟩
 rw[hres]
 unfold fO at hres
 by_cases hbk:iQ s.bk=true
 rotate_left
 ·have hbk:iQ s.bk=false:=by simpa using hbk
  rw[if_pos hbk] at hres
  subst hres
  have hld:=G7 h.nc h.nd h.ng h.nm hbk
  repeat' (first|(with_reducible first|refine up hld ?_)|(with_reducible first|(refine wT ?_;(first|((fail_if_success (have:=nl1));refine wN fun nl1 hnl=>?_)|((fail_if_success (have:=nl2));refine wN fun nl2 hnl=>?_)|((fail_if_success (have:=nl3));refine wN fun nl3 hnl=>?_)|((fail_if_success (have:=nl4));refine wN fun nl4 hnl=>?_)|refine wN fun _ hnl=>?_);revert hnl;(repeat refine wS fun _ _=>?_);intro hnl)|refine wE ?_|(refine wK ?_ ?_<;>intro h)|(refine wB ?_ ?_<;>intro h<;>simp only[h]))|simp(maxSteps:=4000000) (disch:=first|exact ddL|fail) only[go_sem,simprocAttr,Tryz.f16])
  have d32:nl3≠nl2:=by assumption
  obtain⟨S,hS⟩:∃S:St,S=(((St.none.set nl1 (stR s)).set nl2 (.row 43 1 [[.nilp]])).set nl3 (.row 4 1 [[.bool false]])).set nl4 (.row 32 1 [[.fn (.func 80) [] [.ptr nl3 0 0]],[.fn (.func 81) [] [.ptr nl2 0 0,.ptr nl1 0 0]],[.fn (.func 83) [] [.ptr nl1 0 0]],[.fn (.func 85) [] [.ptr nl1 0 0]]]):=⟨_,rfl⟩
  have d43:nl4≠nl3:=by assumption
  have s3:S nl3=some (.row 4 1 [[.bool false]]):=by subst hS;simp[St.set,Ne.symm d43]
  have s4:S nl4=some (.row 32 1 [[.fn (.func 80) [] [.ptr nl3 0 0]],[.fn (.func 81) [] [.ptr nl2 0 0,.ptr nl1 0 0]],[.fn (.func 83) [] [.ptr nl1 0 0]],[.fn (.func 85) [] [.ptr nl1 0 0]]]):=by subst hS;simp[St.set]
  refine aD (α:=Unit) (fun _=>⟨32,[(21,.int .i64 0),(20,.int .i64 4),(19,.vec 1 nl4 0 4)],[]⟩) (fun _=>S) (fun _=>True) (fun _=>0) ?_ ?_
  ·refine .of (.less ?_ (σ1:=S) ?_) ⟨(),rfl,rfl,trivial⟩
   ·simp(maxSteps:=4000000) (disch:=first|exact ddL|fail) only[go_sem,simprocAttr,aC,aB]
    all_goals first|rfl|(simp;done)
   ·subst hS
    exact St.le_refl _
  ·rintro⟨⟩ -
   repeat' (first|(refine bS (xD nl3 false) (St.aL (St.none_le _) s3) ?_)|(with_reducible first|(refine wT ?_;(first|((fail_if_success (have:=nl1));refine wN fun nl1 hnl=>?_)|((fail_if_success (have:=nl2));refine wN fun nl2 hnl=>?_)|((fail_if_success (have:=nl3));refine wN fun nl3 hnl=>?_)|((fail_if_success (have:=nl4));refine wN fun nl4 hnl=>?_)|refine wN fun _ hnl=>?_);revert hnl;(repeat refine wS fun _ _=>?_);intro hnl)|refine wE ?_|(refine wK ?_ ?_<;>intro h)|(refine wB ?_ ?_<;>intro h<;>simp only[h]))|simp(maxSteps:=4000000) (disch:=first|exact ddL|fail) only[go_sem,simprocAttr,s3,s4])
   all_goals first|exact⟨_,St.le_refl _,rfl⟩|exact⟨_,St.le_refl _⟩
 ·have hbr:=pY hbk
  rw[if_neg (by rw[hbk];simp)] at hres
  have hld:=yS h.nc h.nd h.ng h.nm hbk
  have h2:=fun {m l q b p o:Nat} {ex:List (List MV)} (D:pU m l q b) (hp:bkS m l q b s.bk ex p=none) (ho:bkS m l q b s.bk ex o=none) (hop:o≠p)=>I3 h hbr D hp ho hop
  have h3:=fun o:Nat=>I4 o h
  have h4:=fun(o:Nat) (hr:cE s.rows=true) (hs:cP s.bk (-1) s.subs=true)=>I5 o h (wA hr) fun x hx=>by
   obtain⟨a,b,_⟩:=lE hs x hx
   exact⟨by omega,b⟩
  have e2:(s.subs.length > 4∨cP s.bk (-1) s.subs=false)↔(decide (s.subs.length≤4)&&cP s.bk (-1) s.subs)=false:=by
   rw[Bool.and_eq_false_iff,decide_eq_false_iff_not]
   constructor<;>(rintro(q|q))<;>first|exact .inr q|(left;omega)
  have e3:(decide (s.subs.length≤4)&&cP s.bk (-1) s.subs)=true→cP s.bk (-1) s.subs=true:=fun q=>(Bool.and_eq_true_iff.1 q).2
  simp only[e2] at hres
  clear e2
  obtain⟨v2,hv2⟩:∃z,(decide (s.subs.length≤4)&&cP s.bk (-1) s.subs)=z:=⟨_,rfl⟩
  obtain⟨v3,hv3⟩:∃z,cE s.rows=z:=⟨_,rfl⟩
  obtain⟨v4,hv4⟩:∃z,(s.subs.all fun x=>decide ((s.rows.getD x.dev.toNat rwZ).ep=x.ep))=z:=⟨_,rfl⟩
  simp only[hv2] at hres h2 e3
  simp only[hv3] at hres h3 h4
  simp only[hv4] at hres h4
  repeat' (first|((refine Mh hld ?_;intro m l q b ex hm0 hl0 hq0 hb0 D;have hm1:=hm0;have hl1:=hl0;have hq1:=hq0;have hb1:=hb0;simp only[aY] at hm1 hl1 hq1 hb1;obtain⟨ma,-⟩:=hm1;obtain⟨la,-⟩:=hl1;obtain⟨qa,-⟩:=hq1;obtain⟨ba,-⟩:=hb1;have ma':=Ne.symm ma;have la':=Ne.symm la;have qa':=Ne.symm qa;have ba':=Ne.symm ba))|(with_reducible first|(refine wT ?_;(first|((fail_if_success (have:=nl1));refine wN fun nl1 hnl=>?_)|((fail_if_success (have:=nl2));refine wN fun nl2 hnl=>?_)|((fail_if_success (have:=nl3));refine wN fun nl3 hnl=>?_)|((fail_if_success (have:=nl4));refine wN fun nl4 hnl=>?_)|refine wN fun _ hnl=>?_);revert hnl;(repeat refine wS fun _ _=>?_);intro hnl)|refine wE ?_|(refine wK ?_ ?_<;>intro h)|(refine wB ?_ ?_<;>intro h<;>simp only[h]))|simp(maxSteps:=4000000) (disch:=first|exact ddL|fail) only[go_sem,simprocAttr,Tryz.f16])
  have d21:nl2≠nl1:=by assumption
  have d31:nl3≠nl1:=by assumption
  have d32:nl3≠nl2:=by assumption
  have d41:nl4≠nl1:=by assumption
  have d42:nl4≠nl2:=by assumption
  have d43:nl4≠nl3:=by assumption
  have hA:∀{k:Nat},k≠m→k≠l→k≠q→k≠b→bkS m l q b s.bk ex k=none:=fun h1 h2 h3 h4=>by simp only[aY];exact⟨h4,h3,h2,h1,rfl⟩
  have t1:bkS m l q b s.bk ex nl1=none:=hA ma' la' qa' ba'
  have t2:bkS m l q b s.bk ex nl2=none:=hA (by assumption) (by assumption) (by assumption) (by assumption)
  have hw2:=h2 (ex:=ex) D t2 t1 (Ne.symm d21)
  obtain⟨S,hS⟩:∃S:St,S=(((((((((St.none.set nl1 (stR s)).set m (.mp (cEs s.bk.cards))).set l (shO s.bk.nx m (.vec 3 q 0 s.bk.dead.length))).set q (.row 166 3 (s.bk.dead.map DE.c++ex))).set b (eW s.bk.sq l (.lst 2 (s.bk.gr.map GR.c) false)))).set nl2 (.row 43 1 [[.ptr b 0 0]])).set nl3 (.row 4 1 [[.bool true]])).set nl4 (.row 32 1 [[.fn (.func 80) [] [.ptr nl3 0 0]],[.fn (.func 81) [] [.ptr nl2 0 0,.ptr nl1 0 0]],[.fn (.func 83) [] [.ptr nl1 0 0]],[.fn (.func 85) [] [.ptr nl1 0 0]]])):=⟨_,rfl⟩
  have s4:S nl4=some (.row 32 1 [[.fn (.func 80) [] [.ptr nl3 0 0]],[.fn (.func 81) [] [.ptr nl2 0 0,.ptr nl1 0 0]],[.fn (.func 83) [] [.ptr nl1 0 0]],[.fn (.func 85) [] [.ptr nl1 0 0]]]):=by subst hS;exact aM _ _ _
  have s3:S nl3=some (.row 4 1 [[.bool true]]):=by subst hS;exact(aH _ _ _ _ (Ne.symm d43)).trans (aM _ _ _)
  have s2:S nl2=some (.row 43 1 [[.ptr b 0 0]]):=by subst hS;exact(aH _ _ _ _ (Ne.symm d42)).trans ((aH _ _ _ _ (Ne.symm d32)).trans (aM _ _ _))
  have s1:S nl1=some (stR s):=by
   subst hS
   exact(aH _ _ _ _ (Ne.symm d41)).trans ((aH _ _ _ _ (Ne.symm d31)).trans ((aH _ _ _ _ (Ne.symm d21)).trans ((aH _ _ _ _ ba').trans ((aH _ _ _ _ qa').trans ((aH _ _ _ _ la').trans ((aH _ _ _ _ ma').trans (aM _ _ _)))))))
  have sb:S b=some (eW s.bk.sq l (.lst 2 (s.bk.gr.map GR.c) false)):=by
   subst hS
   exact(aH _ _ _ _ (by assumption)).trans ((aH _ _ _ _ (by assumption)).trans ((aH _ _ _ _ (by assumption)).trans (aM _ _ _)))
  have sq:S q=some (.row 166 3 (s.bk.dead.map DE.c++ex)):=by
   subst hS
   exact(aH _ _ _ _ (by assumption)).trans ((aH _ _ _ _ (by assumption)).trans ((aH _ _ _ _ (by assumption)).trans ((aH _ _ _ _ (Ne.symm D.bq)).trans (aM _ _ _))))
  have sl:S l=some (shO s.bk.nx m (.vec 3 q 0 s.bk.dead.length)):=by
   subst hS
   exact(aH _ _ _ _ (by assumption)).trans ((aH _ _ _ _ (by assumption)).trans ((aH _ _ _ _ (by assumption)).trans ((aH _ _ _ _ (Ne.symm D.bl)).trans ((aH _ _ _ _ (Ne.symm D.ql)).trans (aM _ _ _)))))
  have sm:S m=some (.mp (cEs s.bk.cards)):=by
   subst hS
   exact(aH _ _ _ _ (by assumption)).trans ((aH _ _ _ _ (by assumption)).trans ((aH _ _ _ _ (by assumption)).trans ((aH _ _ _ _ (Ne.symm D.bm)).trans ((aH _ _ _ _ (Ne.symm D.qm)).trans ((aH _ _ _ _ (Ne.symm D.lm)).trans (aM _ _ _))))))
  have hle2:(((bkS m l q b s.bk ex).set nl2 (.row 43 1 [[.ptr b 0 0]])).set nl1 (stR s)).le S:=St.aL (St.aL (St.aL (St.aL (St.aL (St.aL (St.none_le _) sm) sl) sq) sb) s2) s1
  refine aD (α:=Nat) (fun i=>⟨32,[(21,.int .i64 (i:Int)),(20,.int .i64 4),(19,.vec 1 nl4 0 4)],[]⟩) (fun _=>S) (fun i=>i≤4∧(2≤i→v2=true)∧(3≤i→v3=true)∧(4≤i→v4=true)) (fun i=>4 - i) ?_ ?_
  ·refine .of (.less ?_ (σ1:=S) ?_) ⟨0,rfl,rfl,by omega,by omega,by omega,by omega⟩
   ·simp(maxSteps:=4000000) (disch:=first|exact ddL|fail) only[go_sem,simprocAttr,aC,aB]
    all_goals first|rfl|(simp;done)
   ·subst hS
    exact St.le_refl _
  ·clear hS
   rintro i ⟨hi,i2,i3,i4⟩
   obtain rfl|rfl|rfl|rfl|rfl:i=0∨i=1∨i=2∨i=3∨i=4:=by omega
   ·repeat' (first|(refine bS (xD nl3 true) (St.aL (St.none_le _) s3) ?_)|(with_reducible first|(refine wT ?_;(first|((fail_if_success (have:=nl1));refine wN fun nl1 hnl=>?_)|((fail_if_success (have:=nl2));refine wN fun nl2 hnl=>?_)|((fail_if_success (have:=nl3));refine wN fun nl3 hnl=>?_)|((fail_if_success (have:=nl4));refine wN fun nl4 hnl=>?_)|refine wN fun _ hnl=>?_);revert hnl;(repeat refine wS fun _ _=>?_);intro hnl)|refine wE ?_|(refine wK ?_ ?_<;>intro h)|(refine wB ?_ ?_<;>intro h<;>simp only[h]))|simp(maxSteps:=4000000) (disch:=first|exact ddL|fail) only[go_sem,simprocAttr,s1,s2,s3,s4])
    refine .of (.less ?_ (St.le_refl _)) ⟨1,rfl,rfl,⟨by omega,by omega,by omega,by omega⟩,by omega⟩
    simp(maxSteps:=4000000) (disch:=first|exact ddL|fail) only[go_sem,simprocAttr,aC,aB]
    all_goals first|rfl|(simp;done)
   ·cases v2
    ·rw[if_pos rfl] at hres
     subst hres
     repeat' (first|(refine bS hw2 hle2 ?_)|(with_reducible first|(refine wT ?_;(first|((fail_if_success (have:=nl1));refine wN fun nl1 hnl=>?_)|((fail_if_success (have:=nl2));refine wN fun nl2 hnl=>?_)|((fail_if_success (have:=nl3));refine wN fun nl3 hnl=>?_)|((fail_if_success (have:=nl4));refine wN fun nl4 hnl=>?_)|refine wN fun _ hnl=>?_);revert hnl;(repeat refine wS fun _ _=>?_);intro hnl)|refine wE ?_|(refine wK ?_ ?_<;>intro h)|(refine wB ?_ ?_<;>intro h<;>simp only[h]))|simp(maxSteps:=4000000) (disch:=first|exact ddL|fail) only[go_sem,simprocAttr,s1,s2,s3,s4])
     all_goals first|exact⟨_,St.le_refl _,rfl⟩|exact⟨_,St.le_refl _⟩
    ·repeat' (first|(refine bS hw2 hle2 ?_)|(with_reducible first|(refine wT ?_;(first|((fail_if_success (have:=nl1));refine wN fun nl1 hnl=>?_)|((fail_if_success (have:=nl2));refine wN fun nl2 hnl=>?_)|((fail_if_success (have:=nl3));refine wN fun nl3 hnl=>?_)|((fail_if_success (have:=nl4));refine wN fun nl4 hnl=>?_)|refine wN fun _ hnl=>?_);revert hnl;(repeat refine wS fun _ _=>?_);intro hnl)|refine wE ?_|(refine wK ?_ ?_<;>intro h)|(refine wB ?_ ?_<;>intro h<;>simp only[h]))|simp(maxSteps:=4000000) (disch:=first|exact ddL|fail) only[go_sem,simprocAttr,s1,s2,s3,s4])
     refine .of (.less ?_ (St.le_refl _)) ⟨2,rfl,rfl,⟨by omega,fun _=>trivial,by omega,by omega⟩,by omega⟩
     simp(maxSteps:=4000000) (disch:=first|exact ddL|fail) only[go_sem,simprocAttr,aC,aB]
     all_goals first|rfl|(simp;done)
   ·have:=i2 (by omega)
    subst this
    rw[if_neg (by simp)] at hres
    cases v3
    ·rw[if_pos rfl] at hres
     subst hres
     repeat' (first|(refine bS (h3 nl1) (St.aL (St.none_le _) s1) ?_)|(with_reducible first|(refine wT ?_;(first|((fail_if_success (have:=nl1));refine wN fun nl1 hnl=>?_)|((fail_if_success (have:=nl2));refine wN fun nl2 hnl=>?_)|((fail_if_success (have:=nl3));refine wN fun nl3 hnl=>?_)|((fail_if_success (have:=nl4));refine wN fun nl4 hnl=>?_)|refine wN fun _ hnl=>?_);revert hnl;(repeat refine wS fun _ _=>?_);intro hnl)|refine wE ?_|(refine wK ?_ ?_<;>intro h)|(refine wB ?_ ?_<;>intro h<;>simp only[h]))|simp(maxSteps:=4000000) (disch:=first|exact ddL|fail) only[go_sem,simprocAttr,s1,s2,s3,s4])
     all_goals first|exact⟨_,St.le_refl _,rfl⟩|exact⟨_,St.le_refl _⟩
    ·repeat' (first|(refine bS (h3 nl1) (St.aL (St.none_le _) s1) ?_)|(with_reducible first|(refine wT ?_;(first|((fail_if_success (have:=nl1));refine wN fun nl1 hnl=>?_)|((fail_if_success (have:=nl2));refine wN fun nl2 hnl=>?_)|((fail_if_success (have:=nl3));refine wN fun nl3 hnl=>?_)|((fail_if_success (have:=nl4));refine wN fun nl4 hnl=>?_)|refine wN fun _ hnl=>?_);revert hnl;(repeat refine wS fun _ _=>?_);intro hnl)|refine wE ?_|(refine wK ?_ ?_<;>intro h)|(refine wB ?_ ?_<;>intro h<;>simp only[h]))|simp(maxSteps:=4000000) (disch:=first|exact ddL|fail) only[go_sem,simprocAttr,s1,s2,s3,s4])
     refine .of (.less ?_ (St.le_refl _)) ⟨3,rfl,rfl,⟨by omega,fun _=>trivial,fun _=>trivial,by omega⟩,by omega⟩
     simp(maxSteps:=4000000) (disch:=first|exact ddL|fail) only[go_sem,simprocAttr,aC,aB]
     all_goals first|rfl|(simp;done)
   ·have:=i2 (by omega)
    have:=i3 (by omega)
    subst this
    subst this
    rw[if_neg (by simp),if_neg (by simp)] at hres
    have h4:=h4 nl1 rfl (e3 rfl)
    cases v4
    ·rw[if_pos rfl] at hres
     subst hres
     repeat' (first|(refine bS h4 (St.aL (St.none_le _) s1) ?_)|(with_reducible first|(refine wT ?_;(first|((fail_if_success (have:=nl1));refine wN fun nl1 hnl=>?_)|((fail_if_success (have:=nl2));refine wN fun nl2 hnl=>?_)|((fail_if_success (have:=nl3));refine wN fun nl3 hnl=>?_)|((fail_if_success (have:=nl4));refine wN fun nl4 hnl=>?_)|refine wN fun _ hnl=>?_);revert hnl;(repeat refine wS fun _ _=>?_);intro hnl)|refine wE ?_|(refine wK ?_ ?_<;>intro h)|(refine wB ?_ ?_<;>intro h<;>simp only[h]))|simp(maxSteps:=4000000) (disch:=first|exact ddL|fail) only[go_sem,simprocAttr,s1,s2,s3,s4])
     all_goals first|exact⟨_,St.le_refl _,rfl⟩|exact⟨_,St.le_refl _⟩
    ·repeat' (first|(refine bS h4 (St.aL (St.none_le _) s1) ?_)|(with_reducible first|(refine wT ?_;(first|((fail_if_success (have:=nl1));refine wN fun nl1 hnl=>?_)|((fail_if_success (have:=nl2));refine wN fun nl2 hnl=>?_)|((fail_if_success (have:=nl3));refine wN fun nl3 hnl=>?_)|((fail_if_success (have:=nl4));refine wN fun nl4 hnl=>?_)|refine wN fun _ hnl=>?_);revert hnl;(repeat refine wS fun _ _=>?_);intro hnl)|refine wE ?_|(refine wK ?_ ?_<;>intro h)|(refine wB ?_ ?_<;>intro h<;>simp only[h]))|simp(maxSteps:=4000000) (disch:=first|exact ddL|fail) only[go_sem,simprocAttr,s1,s2,s3,s4])
     refine .of (.less ?_ (St.le_refl _)) ⟨4,rfl,rfl,⟨by omega,fun _=>trivial,fun _=>trivial,fun _=>trivial⟩,by omega⟩
     simp(maxSteps:=4000000) (disch:=first|exact ddL|fail) only[go_sem,simprocAttr,aC,aB]
     all_goals first|rfl|(simp;done)
   ·have a2:=i2 (by omega)
    have a3:=i3 (by omega)
    have a4:=i4 (by omega)
    subst a2
    subst a3
    subst a4
    rw[if_neg (by simp),if_neg (by simp),if_neg (by simp)] at hres
    subst hres
    repeat' (first|(with_reducible first|(refine wT ?_;(first|((fail_if_success (have:=nl1));refine wN fun nl1 hnl=>?_)|((fail_if_success (have:=nl2));refine wN fun nl2 hnl=>?_)|((fail_if_success (have:=nl3));refine wN fun nl3 hnl=>?_)|((fail_if_success (have:=nl4));refine wN fun nl4 hnl=>?_)|refine wN fun _ hnl=>?_);revert hnl;(repeat refine wS fun _ _=>?_);intro hnl)|refine wE ?_|(refine wK ?_ ?_<;>intro h)|(refine wB ?_ ?_<;>intro h<;>simp only[h]))|simp(maxSteps:=4000000) (disch:=first|exact ddL|fail) only[go_sem,simprocAttr,s1,s2,s3,s4])
    all_goals first|exact⟨_,St.le_refl _,rfl⟩|exact⟨_,St.le_refl _⟩
end

section
set_option maxRecDepth 100000
set_option maxHeartbeats 8000000
theorem fC{α:Type}{f:α→List MV}(hf:∀{a b:α},f a=f b→a=b):∀{l m:List α},l.map f=m.map f→l=m
 | [],[],_=>rfl
 | [],_::_,h=>by simp at h
 | _::_,[],h=>by simp at h
 | a::l,b::m,h=>by
  simp only[List.map_cons,List.cons.injEq] at h
  rw[hf h.1,fC hf h.2]
theorem y8{a b:Int}(h:aR a=aR b):a=b:=by simpa using h
theorem FQ{a b:UInt32}(h:(a.toNat:Int)=(b.toNat:Int)):a=b:=UInt32.toNat_inj.1 (by omega)
theorem JO{a b:CA}(h:a.c=b.c):a=b:=by
 obtain⟨a1,a2,a3,a4⟩:=a
 obtain⟨b1,b2,b3,b4⟩:=b
 simp only[CA.c,List.cons.injEq,MV.int.injEq,true_and] at h
 obtain⟨rfl,rfl,h3,h4⟩:=h
 have e3:a3=b3:=FQ h3
 have e4:a4=b4:=OF h4
 rw[e3,e4]
theorem OA{a b:DE}(h:a.c=b.c):a=b:=by
 obtain⟨a1,a2,a3⟩:=a
 obtain⟨b1,b2,b3⟩:=b
 simpa using h
theorem OI{a b:GR}(h:a.c=b.c):a=b:=by
 obtain⟨a1,a2⟩:=a
 obtain⟨b1,b2⟩:=b
 simp only[GR.c,List.cons.injEq,MV.int.injEq,MV.lst.injEq,true_and,and_true] at h
 have e2:a2=b2:=fC (f:=aR) y8 h.2
 rw[h.1,e2]
theorem Lh{a b:ND}(h:a.c=b.c):a=b:=by
 obtain⟨a1,a2,a3,a4,a5⟩:=a
 obtain⟨b1,b2,b3,b4,b5⟩:=b
 simpa using h
theorem Pm{a b:TU}(h:a.c=b.c):a=b:=by
 obtain⟨a1,a2,a3,a4,a5⟩:=a
 obtain⟨b1,b2,b3,b4,b5⟩:=b
 have h1:=List.cons.inj h
 have h2:=List.cons.inj h1.2
 have h3:=List.cons.inj h2.2
 have h4:=List.cons.inj h3.2
 have e1:a1=b1:=(MV.int.inj h1.1).2
 have e2:a2=b2:=(MV.int.inj h2.1).2
 have e3:a3=b3:=(MV.int.inj h3.1).2
 have e4:a4=b4:=(MV.int.inj h4.1).2
 have e5:a5=b5:=JO h4.2
 rw[e1,e2,e3,e4,e5]
theorem Pb{a b:SU}(h:a.c=b.c):a=b:=by
 obtain⟨a1,a2,a3,a4,a5,a6,a7⟩:=a
 obtain⟨b1,b2,b3,b4,b5,b6,b7⟩:=b
 simp only[SU.c,List.cons.injEq,MV.int.injEq,MV.lst.injEq,true_and,and_true] at h
 obtain⟨rfl,rfl,h3,h4,rfl,h6,h7⟩:=h
 have e3:a3=b3:=fC (f:=ND.c) Lh h3
 have e4:a4=b4:=FQ h4
 have e6:a6=b6:=fC (f:=aR) y8 h6
 have e7:a7=b7:=fC (f:=TU.c) Pm h7
 rw[e3,e4,e6,e7]
theorem O4{a b:RE}(h:a.c=b.c):a=b:=by
 obtain⟨a1,a2,a3,a4,a5,a6,a7,a8,a9,aa⟩:=a
 obtain⟨b1,b2,b3,b4,b5,b6,b7,b8,b9,ba⟩:=b
 simp only[RE.c,List.cons.injEq,MV.int.injEq,MV.lst.injEq,true_and,and_true] at h
 obtain⟨rfl,rfl,rfl,rfl,rfl,rfl,rfl,rfl,h9,ha⟩:=h
 have e9:a9=b9:=fC (f:=ND.c) Lh h9
 have ea:aa=ba:=FQ ha
 rw[e9,ea]
theorem O7{a b:RW}(h:a.c=b.c):a=b:=by
 obtain⟨a1,a2,a3⟩:=a
 obtain⟨b1,b2,b3⟩:=b
 have h1:=List.cons.inj h
 have h2:=List.cons.inj h1.2
 have e1:a1=b1:=(MV.int.inj h1.1).2
 have e2:a2=b2:=(MV.int.inj h2.1).2
 have e3:a3=b3:=O4 h2.2
 rw[e1,e2,e3]
theorem O8{a b:SA}(h:a.c=b.c):a=b:=by
 obtain⟨⟨a1,a2,a3,a4,a5⟩,a6,a7⟩:=a
 obtain⟨⟨b1,b2,b3,b4,b5⟩,b6,b7⟩:=b
 simp only[SA.c,BK.c,List.cons_append,List.nil_append,List.cons.injEq,MV.int.injEq,MV.lst.injEq,true_and,and_true] at h
 obtain⟨rfl,rfl,h3,h4,h5,h6,h7⟩:=h
 have e3:a3=b3:=fC (f:=CA.c) JO h3
 have e4:a4=b4:=fC (f:=DE.c) OA h4
 have e5:a5=b5:=fC (f:=GR.c) OI h5
 have e6:a6=b6:=fC (f:=SU.c) Pb h6
 have e7:a7=b7:=fC (f:=RW.c) O7 h7
 rw[e3,e4,e5,e6,e7]
theorem Ha{s:SA}(h:SaF s)(dev:Int):(jT s dev).length≤1000000:=by
 unfold jT
 cases s.subs.find? (fun x=>decide (x.dev=dev)) with
 | none=>simp
 | some x =>
  simp only[fZ,List.length_map]
  exact Nat.le_trans (List.length_filter_le _ _) h.nc
theorem tJ(a b:SA)(dev:Int):aA Tryz.prog 3 [.agg a.c,.agg b.c,.int .i64 dev] St.none (fun r _=>r=.bool true):=by
 refine aA.bF (aA.body 49 [.tmp 6] Tryz.func3 rfl rfl rfl rfl ?_)
 have la:=Aa a
 have lb:=Aa b
 have haw:=DP
 by_cases hs:SaF a∧SaF b
 ·obtain⟨ha,hb⟩:=hs
  have c1:=yE a ha
  have c2:=Dj a ha
  have c3:=qQ a b ha hb
  have c4:=Bg a b ha
  have c5:=qQ a a ha ha
  rw[decide_eq_true rfl] at c5
  obtain⟨K,hK⟩:∃K,(jT a dev).map CA.c=K:=⟨_,rfl⟩
  obtain⟨C,k1,k2,k3,k4,k5,k6,k7,k8,k9⟩:∃C:bP,C 16 [.agg a.c]=some ⟨[],fun v=>v=.int .i64 (fO a),none⟩∧C 17 [.agg a.c]=some ⟨[],fun v=>v=.int .i64 (fO a),none⟩ ∧
    C 18 [.agg a.c,.agg b.c]=some ⟨[],fun v=>v=.bool (decide (a=b)),none⟩∧C 19 [.agg a.c,.agg b.c]=some ⟨[],fun v=>v=.bool (decide (a=b)),none⟩∧C 18 [.agg a.c,.agg a.c]=some ⟨[],fun v=>v=.bool true,none⟩∧(∀ms,C 21 ms=some ⟨[],fun v=>v=.lst 27 K false,none⟩)∧(∀ms,C 22 ms=some ⟨[],fun v=>v=.lst 27 K false,none⟩)∧(∀ms,C 20 ms=some ⟨[],fun v=>v=.bool true,none⟩)∧∀ms,C 15 ms=some ⟨[],fun v=>v=.bool true,none⟩:=by
   refine⟨fun g ms=>if g=21∨g=22 then some ⟨[],fun v=>v=.lst 27 K false,none⟩ else if g=20∨g=15 then some ⟨[],fun v=>v=.bool true,none⟩ else kn [(16,[.agg a.c],⟨[],fun v=>v=.int .i64 (fO a),none⟩),(17,[.agg a.c],⟨[],fun v=>v=.int .i64 (fO a),none⟩),(18,[.agg a.c,.agg b.c],⟨[],fun v=>v=.bool (decide (a=b)),none⟩),(19,[.agg a.c,.agg b.c],⟨[],fun v=>v=.bool (decide (a=b)),none⟩),(18,[.agg a.c,.agg a.c],⟨[],fun v=>v=.bool true,none⟩)] g ms,jW,?_,?_,?_,?_,fun _=>rfl,fun _=>rfl,fun _=>rfl,fun _=>rfl⟩
   ·show kn _ _ _=_
    exact fS (fun h=>by cases h.1) jW
   ·show kn _ _ _=_
    exact fS (fun h=>by cases h.1) (fS (fun h=>by cases h.1) jW)
   ·show kn _ _ _=_
    exact fS (fun h=>by cases h.1) (fS (fun h=>by cases h.1) (fS (fun h=>by cases h.1) jW))
   ·show kn _ _ _=_
    refine fS (fun h=>by cases h.1) (fS (fun h=>by cases h.1) (fS (fun h=>?_) (fS (fun h=>by cases h.1) jW)))
    have e:b.c=a.c:=MV.agg.inj (List.cons.inj (List.cons.inj h.2).2).1
    have e:=O8 e
    subst e
    rw[decide_eq_true rfl]
  by_cases hw:fO a=0
  ·have c6:=yD a ha hw dev
   have c7:=yJ a ha hw dev
   have c8:=sT (jT a dev) (jT a dev) (Ha ha dev) false false
   rw[decide_eq_true rfl] at c8
   rw[hK] at c6 c7 c8
   rw[hw] at c1 c2 k1 k2
   repeat' (first|((refine eT la ?_;rintro _ ⟨z1,rfl,hz1⟩))|((refine eT lb ?_;rintro _ ⟨z2,rfl,hz2⟩))|((with_reducible refine aJ mixed ?chk C ?_);(case chk=>decide +kernel))|(refine aF k1 c1 ?_)|(refine aF k2 c2 ?_)|(refine aF k3 c3 ?_)|(refine aF k4 c4 ?_)|(refine aF k5 c5 ?_)|(refine aF (k6 _) c6 ?_)|(refine aF (k7 _) c7 ?_)|(refine aF (k8 _) c8 ?_)|(refine aF (k9 _) haw ?_)|(with_reducible first|refine up haw ?_)|(with_reducible first|(refine wN fun _ hnl=>?_;revert hnl;(repeat refine wS fun _ _=>?_);intro hnl)|refine wE ?_|(refine wK ?_ ?_<;>intro h)|(refine wB ?_ ?_<;>intro h<;>simp only[h]))|simp(maxSteps:=4000000) (disch:=first|exact ddL|fail) only[go_sem,simprocAttr,Tryz.f3])
   all_goals first|exact⟨_,St.le_refl _,rfl⟩|exact⟨_,St.le_refl _⟩|skip
  ·obtain⟨wv,hwv⟩:∃wv,fO a=wv:=⟨_,rfl⟩
   rw[hwv] at c1 c2 k1 k2 hw
   repeat' (first|((refine eT la ?_;rintro _ ⟨z1,rfl,hz1⟩))|((refine eT lb ?_;rintro _ ⟨z2,rfl,hz2⟩))|((with_reducible refine aJ mixed ?chk C ?_);(case chk=>decide +kernel))|(refine aF k1 c1 ?_)|(refine aF k2 c2 ?_)|(refine aF k3 c3 ?_)|(refine aF k4 c4 ?_)|(refine aF k5 c5 ?_)|(refine aF (k9 _) haw ?_)|(with_reducible first|refine up haw ?_)|(with_reducible first|(refine wN fun _ hnl=>?_;revert hnl;(repeat refine wS fun _ _=>?_);intro hnl)|refine wE ?_|(refine wK ?_ ?_<;>intro h)|(refine wB ?_ ?_<;>intro h<;>simp only[h]))|simp(maxSteps:=4000000) (disch:=first|exact ddL|fail) only[go_sem,simprocAttr,Tryz.f3])
   all_goals first|exact⟨_,St.le_refl _,rfl⟩|exact⟨_,St.le_refl _⟩|skip
 ·repeat' (first|((refine eT la ?_;rintro _ ⟨z1,rfl,hz1⟩))|((refine eT lb ?_;rintro _ ⟨z2,rfl,hz2⟩))|(with_reducible first|refine up haw ?_)|(with_reducible first|(refine wN fun _ hnl=>?_;revert hnl;(repeat refine wS fun _ _=>?_);intro hnl)|refine wE ?_|(refine wK ?_ ?_<;>intro h)|(refine wB ?_ ?_<;>intro h<;>simp only[h]))|simp(maxSteps:=4000000) (disch:=first|exact ddL|fail) only[go_sem,simprocAttr,Tryz.f3])
  all_goals first|exact⟨_,St.le_refl _,rfl⟩|exact⟨_,St.le_refl _⟩|exact absurd ⟨hz1 (by assumption),hz2 (by assumption)⟩ hs
end
end Go.Proofs.YtojmhmejdihaaaaGreatDoor
