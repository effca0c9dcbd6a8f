/- Parts of the proof, joined; conditions: those that its theorems name. -/
import Derived.Test.YtojmhmejdihaaaaGreatDoorStp
set_option linter.unusedVariables false
set_option linter.unusedSimpArgs false
set_option maxHeartbeats 4000000
namespace Go.Proofs.YtojmhmejdihaaaaGreatDoor
section
set_option maxRecDepth 100000
set_option maxHeartbeats 4000000
abbrev rX:List MV:=[.int .i64 0,.int .i64 0,.int .i64 0,.int .i64 0,.int .i64 0,.int .i64 0,.int .i64 0,.int .i64 0,.aT,.int .u32 0]
abbrev nF:List MV:=[.int .i64 0,.int .i64 0,.int .i64 0,.int .i64 0,.int .i64 0,.int .i64 0,.int .i64 0,.int .i64 0,.int .i64 0,.int .i64 0,.aT,.int .u32 0]
abbrev kT:List MV:=nF++(nF++(nF++(nF++(nF++nF))))
theorem xN:aA Tryz.prog 100 [.aT] St.none (fun r _=>r=.aT):=by
 refine(aA.body 8 [.tmp 2] Tryz.func100 rfl rfl rfl rfl ?_)
 repeat' (first|(with_reducible first|(refine wN fun _ hnl=>?_;revert hnl;(repeat refine wS fun _ _=>?_);intro hnl)|refine wE ?_|(refine wK ?_ ?_<;>intro h)|(refine wB ?_ ?_<;>intro h<;>simp only[h]))|simp(maxSteps:=4000000) (disch:=first|decide|assumption|omega|(simp only[wL];omega)) only[go_sem,simprocAttr,Tryz.f100])
theorem IL:aA Tryz.prog 167 [.agg rX] St.none (fun r _=>r=.agg rX):=by
 refine aA.bF (aA.body 8 [.cell 2 141] Tryz.func167 rfl rfl rfl rfl ?_)
 have h:=xN
 repeat' (first|(with_reducible first|refine up h ?_)|(with_reducible first|(refine wN fun _ hnl=>?_;revert hnl;(repeat refine wS fun _ _=>?_);intro hnl)|refine wE ?_|(refine wK ?_ ?_<;>intro h)|(refine wB ?_ ?_<;>intro h<;>simp only[h]))|simp(maxSteps:=4000000) (disch:=first|decide|assumption|omega|(simp only[wL];omega)) only[go_sem,simprocAttr,Tryz.f167])
 all_goals first|exact⟨_,St.le_refl _,rfl⟩|exact⟨_,St.le_refl _⟩
theorem uU:aA Tryz.prog 162 [] St.none (fun v σ'=>∃l,v=.ptr l 0 0∧σ'=St.none.set l (.row 262 72 [kT])):=by
 refine(aA.body 3 [.tmp 0] Tryz.func162 rfl rfl rfl rfl ?_)
 repeat' (first|(with_reducible first|(refine wN fun _ hnl=>?_;revert hnl;(repeat refine wS fun _ _=>?_);intro hnl)|refine wE ?_|(refine wK ?_ ?_<;>intro h)|(refine wB ?_ ?_<;>intro h<;>simp only[h]))|simp(maxSteps:=4000000) (disch:=first|decide|assumption|omega|(simp only[wL];omega)) only[go_sem,simprocAttr,Tryz.f162])
 all_goals exact⟨_,rfl,rfl⟩
theorem AE(g:Nat):aA Tryz.prog 163 [.ptr g 0 0] (St.none.set g (.row 262 72 [kT])) (fun v σ'=>∃q,(St.none.set g (.row 262 72 [kT])) q=none∧v=.vec 12 q 0 6∧σ'=(St.none.set g (.row 262 72 [kT])).set q (.row 143 12 (List.replicate 6 nF))):=by
 refine(aA.body 35 [.tmp 2] Tryz.func163 rfl rfl rfl rfl ?_)
 have ho:=IL
 have hld:∀o,kT[o]?=some (.int .i64 0)→aA Tryz.prog 249 [.ptr g 0 o] (St.ofList [g] [.row 262 72 [kT]]) (fun v σ'=>v=.int .i64 0∧σ'=St.ofList [g] [.row 262 72 [kT]]):=fun o h=>Ax h
 obtain⟨C,c1,c2⟩:∃C:bP,(∀ms,C 249 ms=some ⟨[g],fun v=>v=.int .i64 0,none⟩)∧(∀ms,C 167 ms=some ⟨[],fun v=>v=.agg rX,none⟩) :=
  ⟨fnF [(249,⟨[g],fun v=>v=.int .i64 0,none⟩),(167,⟨[],fun v=>v=.agg rX,none⟩)],fun _=>bN,fun _=>dF bN⟩
 repeat' (first|(with_reducible first|(refine wT ?_;(first|((fail_if_success (have:=nl1));refine wN fun nl1 hnl=>?_)|((fail_if_success (have:=nl2));refine wN fun nl2 hnl=>?_)|refine wN fun _ hnl=>?_);revert hnl;(repeat refine wS fun _ _=>?_);intro hnl)|refine wE ?_|(refine wK ?_ ?_<;>intro h)|(refine wB ?_ ?_<;>intro h<;>simp only[h]))|simp(maxSteps:=4000000) (disch:=first|decide|assumption|omega|(simp only[wL];omega)) only[go_sem,simprocAttr,Tryz.f163])
 refine aD (α:=Nat × Nat) (fun a=>⟨35,[(8,.int .i64 (a.1:Int)),(3,.vec 12 a.2 0 a.1),(0,.ptr g 0 0)],[]⟩)
  (fun a=>(St.none.set g (.row 262 72 [kT])).set a.2 (.row 143 12 (List.replicate a.1 nF))) (fun a=>a.1≤6∧a.2≠g) (fun a=>6 - a.1) ?_ ?_
 ·refine Gh.Bd 143 12 (fun q=>[(8,.int .i64 0),(3,.vec 12 q 0 0),(0,.ptr g 0 0)]) (fun k=>by(repeat' (refine And.intro ?_ ?_))<;>first|exact trivial|exact .inl rfl|exact .inr ⟨rfl,.inl rfl⟩|exact .inr ⟨rfl,.inr rfl⟩) fun q hq=>?_
  exact .done ⟨(0,q),rfl,rfl,Nat.zero_le _,(bL hq).1⟩
 ·rintro⟨i,q⟩ ⟨hi,hq⟩
  simp only at hi hq ⊢
  have hq':=Ne.symm hq
  obtain rfl|rfl|rfl|rfl|rfl|rfl|rfl:i=0∨i=1∨i=2∨i=3∨i=4∨i=5∨i=6:=by omega
  all_goals
   try simp only[List.replicate]
  ·repeat' (first|((with_reducible refine aJ mixed ?chk C ?_);(case chk=>decide +kernel))|(with_reducible refine fF [g] [.row 262 72 [kT]] (c1 _) (by simp[St.set, *]) (hld _ rfl) ?_)|(with_reducible refine aF (c2 _) ho ?_)|(with_reducible first|(refine wT ?_;(first|((fail_if_success (have:=nl1));refine wN fun nl1 hnl=>?_)|((fail_if_success (have:=nl2));refine wN fun nl2 hnl=>?_)|refine wN fun _ hnl=>?_);revert hnl;(repeat refine wS fun _ _=>?_);intro hnl)|refine wE ?_|(refine wK ?_ ?_<;>intro h)|(refine wB ?_ ?_<;>intro h<;>simp only[h]))|simp(maxSteps:=4000000) (disch:=first|decide|assumption|omega|(simp only[wL];omega)) only[go_sem,simprocAttr,rX])
   refine .of (.less ?_ (σ1:=(St.none.set g (.row 262 72 [kT])).set nl2 (.row 143 12 (List.replicate 1 nF))) (kJ (by simp[St.set,St.none, *]))) ⟨(1,nl2),rfl,rfl,⟨by simp only;omega,by assumption⟩,by simp only;omega⟩
   simp(maxSteps:=4000000) (disch:=first|decide|assumption|omega|(simp only[wL];omega)) only[go_sem,simprocAttr,aC,aB]
   all_goals first|rfl|(simp;done)
  ·repeat' (first|((with_reducible refine aJ mixed ?chk C ?_);(case chk=>decide +kernel))|(with_reducible refine fF [g] [.row 262 72 [kT]] (c1 _) (by simp[St.set, *]) (hld _ rfl) ?_)|(with_reducible refine aF (c2 _) ho ?_)|(with_reducible first|(refine wT ?_;(first|((fail_if_success (have:=nl1));refine wN fun nl1 hnl=>?_)|((fail_if_success (have:=nl2));refine wN fun nl2 hnl=>?_)|refine wN fun _ hnl=>?_);revert hnl;(repeat refine wS fun _ _=>?_);intro hnl)|refine wE ?_|(refine wK ?_ ?_<;>intro h)|(refine wB ?_ ?_<;>intro h<;>simp only[h]))|simp(maxSteps:=4000000) (disch:=first|decide|assumption|omega|(simp only[wL];omega)) only[go_sem,simprocAttr,rX])
   refine .of (.less ?_ (σ1:=(St.none.set g (.row 262 72 [kT])).set nl2 (.row 143 12 (List.replicate 2 nF))) (kJ (by simp[St.set,St.none, *]))) ⟨(2,nl2),rfl,rfl,⟨by simp only;omega,by assumption⟩,by simp only;omega⟩
   simp(maxSteps:=4000000) (disch:=first|decide|assumption|omega|(simp only[wL];omega)) only[go_sem,simprocAttr,aC,aB]
   all_goals first|rfl|(simp;done)
  ·repeat' (first|((with_reducible refine aJ mixed ?chk C ?_);(case chk=>decide +kernel))|(with_reducible refine fF [g] [.row 262 72 [kT]] (c1 _) (by simp[St.set, *]) (hld _ rfl) ?_)|(with_reducible refine aF (c2 _) ho ?_)|(with_reducible first|(refine wT ?_;(first|((fail_if_success (have:=nl1));refine wN fun nl1 hnl=>?_)|((fail_if_success (have:=nl2));refine wN fun nl2 hnl=>?_)|refine wN fun _ hnl=>?_);revert hnl;(repeat refine wS fun _ _=>?_);intro hnl)|refine wE ?_|(refine wK ?_ ?_<;>intro h)|(refine wB ?_ ?_<;>intro h<;>simp only[h]))|simp(maxSteps:=4000000) (disch:=first|decide|assumption|omega|(simp only[wL];omega)) only[go_sem,simprocAttr,rX])
   refine .of (.less ?_ (σ1:=(St.none.set g (.row 262 72 [kT])).set nl2 (.row 143 12 (List.replicate 3 nF))) (kJ (by simp[St.set,St.none, *]))) ⟨(3,nl2),rfl,rfl,⟨by simp only;omega,by assumption⟩,by simp only;omega⟩
   simp(maxSteps:=4000000) (disch:=first|decide|assumption|omega|(simp only[wL];omega)) only[go_sem,simprocAttr,aC,aB]
   all_goals first|rfl|(simp;done)
  ·repeat' (first|((with_reducible refine aJ mixed ?chk C ?_);(case chk=>decide +kernel))|(with_reducible refine fF [g] [.row 262 72 [kT]] (c1 _) (by simp[St.set, *]) (hld _ rfl) ?_)|(with_reducible refine aF (c2 _) ho ?_)|(with_reducible first|(refine wT ?_;(first|((fail_if_success (have:=nl1));refine wN fun nl1 hnl=>?_)|((fail_if_success (have:=nl2));refine wN fun nl2 hnl=>?_)|refine wN fun _ hnl=>?_);revert hnl;(repeat refine wS fun _ _=>?_);intro hnl)|refine wE ?_|(refine wK ?_ ?_<;>intro h)|(refine wB ?_ ?_<;>intro h<;>simp only[h]))|simp(maxSteps:=4000000) (disch:=first|decide|assumption|omega|(simp only[wL];omega)) only[go_sem,simprocAttr,rX])
   refine .of (.less ?_ (σ1:=(St.none.set g (.row 262 72 [kT])).set nl2 (.row 143 12 (List.replicate 4 nF))) (kJ (by simp[St.set,St.none, *]))) ⟨(4,nl2),rfl,rfl,⟨by simp only;omega,by assumption⟩,by simp only;omega⟩
   simp(maxSteps:=4000000) (disch:=first|decide|assumption|omega|(simp only[wL];omega)) only[go_sem,simprocAttr,aC,aB]
   all_goals first|rfl|(simp;done)
  ·repeat' (first|((with_reducible refine aJ mixed ?chk C ?_);(case chk=>decide +kernel))|(with_reducible refine fF [g] [.row 262 72 [kT]] (c1 _) (by simp[St.set, *]) (hld _ rfl) ?_)|(with_reducible refine aF (c2 _) ho ?_)|(with_reducible first|(refine wT ?_;(first|((fail_if_success (have:=nl1));refine wN fun nl1 hnl=>?_)|((fail_if_success (have:=nl2));refine wN fun nl2 hnl=>?_)|refine wN fun _ hnl=>?_);revert hnl;(repeat refine wS fun _ _=>?_);intro hnl)|refine wE ?_|(refine wK ?_ ?_<;>intro h)|(refine wB ?_ ?_<;>intro h<;>simp only[h]))|simp(maxSteps:=4000000) (disch:=first|decide|assumption|omega|(simp only[wL];omega)) only[go_sem,simprocAttr,rX])
   refine .of (.less ?_ (σ1:=(St.none.set g (.row 262 72 [kT])).set nl2 (.row 143 12 (List.replicate 5 nF))) (kJ (by simp[St.set,St.none, *]))) ⟨(5,nl2),rfl,rfl,⟨by simp only;omega,by assumption⟩,by simp only;omega⟩
   simp(maxSteps:=4000000) (disch:=first|decide|assumption|omega|(simp only[wL];omega)) only[go_sem,simprocAttr,aC,aB]
   all_goals first|rfl|(simp;done)
  ·repeat' (first|((with_reducible refine aJ mixed ?chk C ?_);(case chk=>decide +kernel))|(with_reducible refine fF [g] [.row 262 72 [kT]] (c1 _) (by simp[St.set, *]) (hld _ rfl) ?_)|(with_reducible refine aF (c2 _) ho ?_)|(with_reducible first|(refine wT ?_;(first|((fail_if_success (have:=nl1));refine wN fun nl1 hnl=>?_)|((fail_if_success (have:=nl2));refine wN fun nl2 hnl=>?_)|refine wN fun _ hnl=>?_);revert hnl;(repeat refine wS fun _ _=>?_);intro hnl)|refine wE ?_|(refine wK ?_ ?_<;>intro h)|(refine wB ?_ ?_<;>intro h<;>simp only[h]))|simp(maxSteps:=4000000) (disch:=first|decide|assumption|omega|(simp only[wL];omega)) only[go_sem,simprocAttr,rX])
   refine .of (.less ?_ (σ1:=(St.none.set g (.row 262 72 [kT])).set nl2 (.row 143 12 (List.replicate 6 nF))) (kJ (by simp[St.set,St.none, *]))) ⟨(6,nl2),rfl,rfl,⟨by simp only;omega,by assumption⟩,by simp only;omega⟩
   simp(maxSteps:=4000000) (disch:=first|decide|assumption|omega|(simp only[wL];omega)) only[go_sem,simprocAttr,aC,aB]
   all_goals first|rfl|(simp;done)
  ·repeat' (first|(with_reducible first|(refine wT ?_;(first|((fail_if_success (have:=nl1));refine wN fun nl1 hnl=>?_)|((fail_if_success (have:=nl2));refine wN fun nl2 hnl=>?_)|refine wN fun _ hnl=>?_);revert hnl;(repeat refine wS fun _ _=>?_);intro hnl)|refine wE ?_|(refine wK ?_ ?_<;>intro h)|(refine wB ?_ ?_<;>intro h<;>simp only[h]))|simp(maxSteps:=4000000) (disch:=first|decide|assumption|omega|(simp only[wL];omega)) only[go_sem,simprocAttr,rX])
   exact⟨q,by simp[St.set,St.none,hq],rfl,rfl⟩
end

section
set_option maxRecDepth 100000
set_option maxHeartbeats 4000000
abbrev Qc(q:Nat):List MV:=[.int .i64 0,.int .i64 1,.lst 27 [] false,.aT,.aT,.aT,.vec 12 q 0 6]
abbrev rw6:bE:=.row 143 12 (List.replicate 6 nF)
theorem Ov{σ:St}{m l b:Nat}(h1:l≠m)(h2:b≠m)(h3:b≠l):(bk0 m l b).le (((σ.set m (.mp [])).set l (shO 1 m .aT)).set b (eW 0 l .aT)) :=
 fun j o h=>by
  simp only[bk0,St.set,St.none] at h ⊢
  split
  ·rename_i e;rw[if_pos e] at h;exact h
  ·rename_i e
   rw[if_neg e] at h
   split
   ·rename_i e;rw[if_pos e] at h;exact h
   ·rename_i e
    rw[if_neg e] at h
    split
    ·rename_i e;rw[if_pos e] at h;exact h
    ·rename_i e;rw[if_neg e] at h;cases h
theorem FJ:aA Tryz.prog 79 [] St.none (fun v σ'=>∃q,v=.agg (Qc q)∧σ'=St.none.set q rw6):=by
 refine aA.less (Q':=fun v σ'=>∃q,v=.agg (Qc q)∧σ' q=some rw6) (aA.body 6 [.cell 0 30] Tryz.func79 rfl rfl rfl rfl ?_) fun v σ' h=>?_
 rotate_left
 ·obtain⟨q,rfl,h⟩:=h
  exact⟨_,St.aL (St.none_le _) h,q,rfl,rfl⟩
 have hd:=Af
 have hg:=AE
 repeat' (first|(refine DA DS ?_;(intro m l b hm hl hb hlm hbm hbl;have hml:=Ne.symm hlm;have hmb:=Ne.symm hbm;have hlb:=Ne.symm hbl;have m1:=(bL hm).1;have l1:=(bL hl).1;have b1:=(bL hb).1;have m2:=Ne.symm m1;have l2:=Ne.symm l1;have b2:=Ne.symm b1))|((refine bS (hd _ _ _ (by assumption) (by assumption) (by assumption)) (Ov (by assumption) (by assumption) (by assumption)) ?_))|(refine kP uU ?_;(intro g hgg;obtain⟨g1,hgg⟩:=bL hgg;obtain⟨g2,hgg⟩:=bL hgg;obtain⟨g3,hgg⟩:=bL hgg;obtain⟨g4,-⟩:=bL hgg;have g1':=Ne.symm g1;have g2':=Ne.symm g2;have g3':=Ne.symm g3;have g4':=Ne.symm g4))|(refine Mj (hg _) (St.aL (St.none_le _) (aM _ _ _)) ?_;(intro q hq;obtain⟨q0,hq⟩:=bL hq;obtain⟨q1,hq⟩:=bL hq;obtain⟨q2,hq⟩:=bL hq;obtain⟨q3,hq⟩:=bL hq;obtain⟨q4,-⟩:=bL hq;have q0':=Ne.symm q0;have q1':=Ne.symm q1;have q2':=Ne.symm q2;have q3':=Ne.symm q3;have q4':=Ne.symm q4))|(with_reducible first|(refine wN fun _ hnl=>?_;revert hnl;(repeat refine wS fun _ _=>?_);intro hnl)|refine wE ?_|(refine wK ?_ ?_<;>intro h)|(refine wB ?_ ?_<;>intro h<;>simp only[h]))|simp(maxSteps:=4000000) (disch:=first|exact ddL|fail) only[go_sem,simprocAttr,Tryz.f79])
 exact⟨q,rfl,by first|exact aM _ _ _|simp[St.set,List.replicate, *]⟩
end

section
set_option maxRecDepth 100000
set_option maxHeartbeats 4000000
abbrev SA.v(s:SA)(q:Nat):List MV:=s.bk.c++[.lst 7 (s.subs.map SU.c) false,.vec 12 q 0 s.rows.length]
abbrev SA.o(s:SA):bE:=.row 143 12 (s.rows.map RW.c)
theorem NI:F2 St.none rw6 (SA.o saZ):=by
 refine .inr ⟨_,_,_,_,rfl,rfl,rfl,fun i x x1 h1 h2=>?_⟩
 have e1:x=nF:=by
  have:=List.mem_of_getElem? h1
  exact List.eq_of_mem_replicate this
 have e2:x1=rwZ.c:=by
  have:=List.mem_of_getElem? h2
  rw[show saZ.rows.map RW.c=List.replicate 6 rwZ.c from rfl] at this
  exact List.eq_of_mem_replicate this
 subst e1 e2
 refine⟨rfl,fun j m m1 hm hm1=>?_⟩
 by_cases hj:j=10
 ·subst hj
  have a:m=.aT:=by simpa using hm.symm
  have b:m1=.lst 5 [] false:=by
   have:rwZ.c[10]?=some (.lst 5 [] false):=rfl
   rw[this] at hm1
   exact(Option.some.inj hm1).symm
  subst a b
  exact .inr ⟨rfl,.nil 5 false⟩
 ·left
  have h12:j<12:=(List.getElem?_eq_some_iff.1 hm).1
  have key:∀j:Nat,j<12→j≠10→rwZ.c[j]?=nF[j]?:=by
   intro j h h'
   obtain rfl|rfl|rfl|rfl|rfl|rfl|rfl|rfl|rfl|rfl|rfl:j=0∨j=1∨j=2∨j=3∨j=4∨j=5∨j=6∨j=7∨j=8∨j=9∨j=11:=by omega
   all_goals rfl
  rw[key j h12 hj,hm] at hm1
  exact(Option.some.inj hm1).symm
theorem Dt:aA Tryz.prog 79 [] St.none (fun v σ'=>∃q,v=.agg (saZ.v q)∧σ'=St.none.set q saZ.o):=by
 refine aA.ghost (FJ.mono fun v σ' h=>?_)
 obtain⟨q,rfl,rfl⟩:=h
 refine⟨.agg (saZ.v q),St.none.set q saZ.o,bV.uM St.none (St.none_le _) (fun k o1 h=>?_) (fun _ _ _=>rfl) (fun p hp=>?_),q,rfl,rfl⟩
 ·have hk:k=q:=by
   apply Classical.byContradiction
   intro e
   simp[St.set,e,St.none] at h
  subst hk
  rw[aM] at h
  cases h
  exact⟨_,aM _ _ _,NI⟩
 ·simp at hp
  subst hp
  simp only[cH,if_true]
  exact .Mv ⟨.same _,.same _,.same _,.nil 3 false,.nil 2 false,.nil 7 false,.same _,trivial⟩ rfl
end

section
set_option maxRecDepth 100000
set_option maxHeartbeats 4000000
theorem Bl:aA Tryz.prog 95 [.int .i64 1,.lst 27 [] false,.lst 3 [] false] St.none (fun v σ'=>∃m l,l≠m∧v=.tup [.ptr l 0 0,.bool true]∧σ'=(St.none.set m (.mp [])).set l (shO 1 m .aT)):=by
 refine(aA.body 128 [.tmp 6,.tmp 7] Tryz.func95 rfl rfl rfl rfl ?_)
 repeat' (first|(refine j9 pN ?_;(intro m l hm hl hlm;have hml:=Ne.symm hlm))|(with_reducible first|(refine wN fun _ hnl=>?_;revert hnl;(repeat refine wS fun _ _=>?_);intro hnl)|refine wE ?_|(refine wK ?_ ?_<;>intro h)|(refine wB ?_ ?_<;>intro h<;>simp only[h]))|simp(maxSteps:=4000000) (disch:=first|exact ddL|fail) only[go_sem,simprocAttr,Tryz.f95])
 refine aD (α:=Unit) (fun _=>⟨128,[(40,.int .i64 0),(39,.int .i64 0),(8,.ptr l 0 0),(2,.lst 3 [] false),(0,.int .i64 1)],[]⟩)
  (fun _=>(St.none.set m (.mp [])).set l (shO 1 m .aT)) (fun _=>True) (fun _=>0) ?_ ?_
 ·refine .of (.less ?_ (St.le_refl _)) ⟨(),rfl,rfl,trivial⟩
  simp(maxSteps:=4000000) (disch:=first|exact ddL|fail) only[go_sem,simprocAttr,aC,aB]
  all_goals first|rfl|(simp;done)
 ·rintro⟨⟩ -
  repeat' (first|(with_reducible first|(refine wN fun _ hnl=>?_;revert hnl;(repeat refine wS fun _ _=>?_);intro hnl)|refine wE ?_|(refine wK ?_ ?_<;>intro h)|(refine wB ?_ ?_<;>intro h<;>simp only[h]))|simp(maxSteps:=4000000) (disch:=first|exact ddL|fail) only[go_sem,simprocAttr])
  refine aD (α:=Unit) (fun _=>⟨128,[(71,.int .i64 0),(70,.int .i64 0),(8,.ptr l 0 0)],[]⟩)
   (fun _=>(St.none.set m (.mp [])).set l (shO 1 m .aT)) (fun _=>True) (fun _=>0) ?_ ?_
  ·refine .of (.less ?_ (St.le_refl _)) ⟨(),rfl,rfl,trivial⟩
   simp(maxSteps:=4000000) (disch:=first|exact ddL|fail) only[go_sem,simprocAttr,aC,aB]
   all_goals first|rfl|(simp;done)
  ·rintro⟨⟩ -
   repeat' (first|(with_reducible first|(refine wN fun _ hnl=>?_;revert hnl;(repeat refine wS fun _ _=>?_);intro hnl)|refine wE ?_|(refine wK ?_ ?_<;>intro h)|(refine wB ?_ ?_<;>intro h<;>simp only[h]))|simp(maxSteps:=4000000) (disch:=first|exact ddL|fail) only[go_sem,simprocAttr])
   all_goals exact⟨m,l,hlm,rfl,rfl⟩
theorem As:aA Tryz.prog 96 [.lst 2 [] false] St.none (fun r _=>r=.bool true):=by
 refine(aA.body 30 [.tmp 2] Tryz.func96 rfl rfl rfl rfl ?_)
 repeat' (first|(with_reducible first|(refine wN fun _ hnl=>?_;revert hnl;(repeat refine wS fun _ _=>?_);intro hnl)|refine wE ?_|(refine wK ?_ ?_<;>intro h)|(refine wB ?_ ?_<;>intro h<;>simp only[h]))|simp(maxSteps:=4000000) (disch:=first|exact ddL|fail) only[go_sem,simprocAttr,Tryz.f96])
 refine aD (α:=Unit) (fun _=>⟨30,[(8,.int .i64 0),(7,.int .i64 0)],[]⟩)
  (fun _=>St.none) (fun _=>True) (fun _=>0) ?_ ?_
 ·refine .of (.less ?_ (St.le_refl _)) ⟨(),rfl,rfl,trivial⟩
  simp(maxSteps:=4000000) (disch:=first|exact ddL|fail) only[go_sem,simprocAttr,aC,aB]
  all_goals first|rfl|(simp;done)
 ·rintro⟨⟩ -
  repeat' (first|(with_reducible first|(refine wN fun _ hnl=>?_;revert hnl;(repeat refine wS fun _ _=>?_);intro hnl)|refine wE ?_|(refine wK ?_ ?_<;>intro h)|(refine wB ?_ ?_<;>intro h<;>simp only[h]))|simp(maxSteps:=4000000) (disch:=first|exact ddL|fail) only[go_sem,simprocAttr])
theorem Ag:aA Tryz.prog 25 [.agg bkZ.c] St.none (fun v σ'=>∃m l b,l≠m∧b≠m∧b≠l∧v=.tup [.ptr b 0 0,.bool true]∧σ'=((St.none.set m (.mp [])).set l (shO 1 m .aT)).set b (eW 0 l .aT)):=by
 refine aA.less (Q':=fun v σ'=>∃m l b,l≠m∧b≠m∧b≠l∧v=.tup [.ptr b 0 0,.bool true]∧σ' m=some (.mp [])∧σ' l=some (shO 1 m .aT)∧σ' b=some (eW 0 l .aT)) (aA.body 106 [.tmp 2,.tmp 3] Tryz.func25 rfl rfl rfl rfl ?_) fun v σ' h=>?_
 rotate_left
 ·obtain⟨m,l,b,h1,h2,h3,rfl,h4,h5,h6⟩:=h
  exact⟨_,St.aL (St.aL (St.aL (St.none_le _) h4) h5) h6,m,l,b,h1,h2,h3,rfl,rfl⟩
 have hg:=As
 repeat' (first|(refine j9 Bl ?_;(intro m l hm hl hlm;have hml:=Ne.symm hlm;have m1:=(bL hm).1;have l1:=(bL hl).1;have m2:=Ne.symm m1;have l2:=Ne.symm l1))|(with_reducible first|refine up hg ?_)|(with_reducible first|(refine wT ?_;(first|((fail_if_success (have:=nl1));refine wN fun nl1 hnl=>?_)|((fail_if_success (have:=nl2));refine wN fun nl2 hnl=>?_)|refine wN fun _ hnl=>?_);revert hnl;(repeat refine wS fun _ _=>?_);intro hnl)|refine wE ?_|(refine wK ?_ ?_<;>intro h)|(refine wB ?_ ?_<;>intro h<;>simp only[h]))|simp(maxSteps:=4000000) (disch:=first|exact ddL|fail) only[go_sem,simprocAttr,Tryz.f25,bkZ,List.map_nil])
 have b1:nl2≠m:=by assumption
 have b2:nl2≠l:=by assumption
 refine aD (α:=Unit) (fun _=>⟨106,[(66,.int .i64 0),(65,.int .i64 0),(8,.aT),(7,.ptr nl2 0 0),(1,.ptr nl1 0 0)],[]⟩)
  (fun _=>(((St.none.set nl1 (.row 26 5 [bkZ.c])).set m (.mp [])).set l (shO 1 m .aT)).set nl2 (eW 0 l .aT)) (fun _=>True) (fun _=>0) ?_ ?_
 ·refine .of (.less ?_ (St.le_refl _)) ⟨(),rfl,rfl,trivial⟩
  simp(maxSteps:=4000000) (disch:=first|exact ddL|fail) only[go_sem,simprocAttr,aC,aB]
  all_goals first|rfl|(simp;done)
 ·rintro⟨⟩ -
  repeat' (first|(with_reducible first|(refine wT ?_;(first|((fail_if_success (have:=nl1));refine wN fun nl1 hnl=>?_)|((fail_if_success (have:=nl2));refine wN fun nl2 hnl=>?_)|refine wN fun _ hnl=>?_);revert hnl;(repeat refine wS fun _ _=>?_);intro hnl)|refine wE ?_|(refine wK ?_ ?_<;>intro h)|(refine wB ?_ ?_<;>intro h<;>simp only[h]))|simp(maxSteps:=4000000) (disch:=first|exact ddL|fail) only[go_sem,simprocAttr,bkZ,List.map_nil])
  refine aD (α:=Unit) (fun _=>⟨106,[(79,.int .i64 0),(78,.int .i64 0),(7,.ptr nl2 0 0)],[]⟩)
   (fun _=>(((St.none.set nl1 (.row 26 5 [bkZ.c])).set m (.mp [])).set l (shO 1 m .aT)).set nl2 (eW 0 l .aT)) (fun _=>True) (fun _=>0) ?_ ?_
  ·refine .of (.less ?_ (St.le_refl _)) ⟨(),rfl,rfl,trivial⟩
   simp(maxSteps:=4000000) (disch:=first|exact ddL|fail) only[go_sem,simprocAttr,aC,aB]
   all_goals first|rfl|(simp;done)
  ·rintro⟨⟩ -
   repeat' (first|(with_reducible first|(refine wT ?_;(first|((fail_if_success (have:=nl1));refine wN fun nl1 hnl=>?_)|((fail_if_success (have:=nl2));refine wN fun nl2 hnl=>?_)|refine wN fun _ hnl=>?_);revert hnl;(repeat refine wS fun _ _=>?_);intro hnl)|refine wE ?_|(refine wK ?_ ?_<;>intro h)|(refine wB ?_ ?_<;>intro h<;>simp only[h]))|simp(maxSteps:=4000000) (disch:=first|exact ddL|fail) only[go_sem,simprocAttr])
   exact⟨m,l,nl2,hlm,b1,b2,rfl,by simp[St.set, *],by simp[St.set, *],by simp[St.set, *]⟩
theorem wP:aA Tryz.prog 164 [] St.none (fun v σ'=>∃m l,l≠m∧v=.ptr l 0 0∧σ'=(St.none.set m (.mp [])).set l (.row 252 1 [[.mapv m]])):=by
 refine(aA.body 4 [.tmp 0] Tryz.func164 rfl rfl rfl rfl ?_)
 repeat' (first|(with_reducible first|(refine wN fun _ hnl=>?_;revert hnl;(repeat refine wS fun _ _=>?_);intro hnl)|refine wE ?_|(refine wK ?_ ?_<;>intro h)|(refine wB ?_ ?_<;>intro h<;>simp only[h]))|simp(maxSteps:=4000000) (disch:=first|exact ddL|fail) only[go_sem,simprocAttr,Tryz.f164])
 all_goals exact⟨_,_,by assumption,rfl,rfl⟩
theorem Bi(b:Nat):aA Tryz.prog 82 [.ptr b 0 0,.lst 7 [] false] St.none (fun v _=>v=.tup [.junk,.bool true]):=by
 refine aA.seen (aA.body 78 [.tmp 4,.tmp 5] Tryz.func82 rfl rfl rfl rfl ?_)
 repeat' (first|(refine j9 wP ?_;(intro m l hm hl hlm;have hml:=Ne.symm hlm))|(with_reducible first|(refine wN fun _ hnl=>?_;revert hnl;(repeat refine wS fun _ _=>?_);intro hnl)|refine wE ?_|(refine wK ?_ ?_<;>intro h)|(refine wB ?_ ?_<;>intro h<;>simp only[h]))|simp(maxSteps:=4000000) (disch:=first|exact ddL|fail) only[go_sem,simprocAttr,Tryz.f82])
 refine aD (α:=Unit) (fun _=>⟨78,[(18,.int .i64 0),(17,.int .i64 0),(6,.ptr l 0 0)],[]⟩)
  (fun _=>(St.none.set m (.mp [])).set l (.row 252 1 [[.mapv m]])) (fun _=>True) (fun _=>0) ?_ ?_
 ·refine .of (.less ?_ (St.le_refl _)) ⟨(),rfl,rfl,trivial⟩
  simp(maxSteps:=4000000) (disch:=first|exact ddL|fail) only[go_sem,simprocAttr,aC,aB]
  all_goals first|rfl|(simp;done)
 ·rintro⟨⟩ -
  repeat' (first|(with_reducible first|(refine wN fun _ hnl=>?_;revert hnl;(repeat refine wS fun _ _=>?_);intro hnl)|refine wE ?_|(refine wK ?_ ?_<;>intro h)|(refine wB ?_ ?_<;>intro h<;>simp only[h]))|simp(maxSteps:=4000000) (disch:=first|exact ddL|fail) only[go_sem,simprocAttr])
  exact .two (.junk _) (.same _)
end
end Go.Proofs.YtojmhmejdihaaaaGreatDoor
