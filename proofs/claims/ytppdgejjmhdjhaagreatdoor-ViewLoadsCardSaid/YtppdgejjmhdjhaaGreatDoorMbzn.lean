/- Parts of the proof, joined; conditions: those that its theorems name. -/
import Derived.Test.YtppdgejjmhdjhaaGreatDoorMbzl
import Derived.Test.YtppdgejjmhdjhaaGreatDoorMbzm
set_option linter.unusedVariables false
set_option linter.unusedSimpArgs false
set_option maxHeartbeats 4000000
namespace Go.Proofs.YtppdgejjmhdjhaaGreatDoor
section
set_option maxRecDepth 100000
set_option maxHeartbeats 8000000
theorem Px:(ED.mk 1 0 0 evP).c=.int .i64 1::.int .i64 0::.int .i64 0::.int .u32 256::.int .u32 2::fc f80:=rfl
theorem Py:(ED.mk 2 1 0 evW).c=.int .i64 2::.int .i64 1::.int .i64 0::.int .u32 256::.int .u32 1::fc f80:=rfl
theorem Om{m l b:Nat}(hlm:l≠m)(hbm:b≠m)(hbl:b≠l)(D g:MV) :
  aA Tryz.prog 17 [.ptr b 0 0,.agg (.int .i64 1::.int .i64 0::.int .i64 0::.int .u32 256::.int .u32 2::fc f80)] (mlb m l b (.mp (cEs [])) (shO 1 m D) (bL 0 l g)) (fun v σ'=>v=.tup [.lst 2 ([((1:Int),(1:Int))].map chC) false,.int .i64 0]∧σ'=(((mlb m l b (.mp (cEs [])) (shO 1 m D) (bL 0 l g)).set m (.mp (cEs [ev1]))).set l (shO 2 m D)).set b (bL 1 l g)):=by
 rw[←Px]
 refine(IW (nx:=1) (sq:=0) hlm hbm hbl D g [] evP (by decide +kernel) (by decide) (by decide) (by decide) (by simp) (by decide) (by decide)).mono ?_
 rintro v σ' ⟨q1,q2⟩
 exact⟨q1,q2.trans OF⟩
theorem On{m l q b:Nat}(D:kE m l q b)(g:MV) :
  aA Tryz.prog 17 [.ptr b 0 0,.agg (.int .i64 2::.int .i64 1::.int .i64 0::.int .u32 256::.int .u32 1::fc f80)] ((shS 2 m l q [ev1] [] []).set b (bL 1 l g)) (fun v σ'=>v=.tup [.lst 2 ([((2:Int),(1:Int))].map chC) false,.int .i64 0]∧σ'=((((shS 2 m l q [ev1] [] []).set b (bL 1 l g)).set m (.mp (cEs [ev2]))).set l (shO 2 m (.vec 3 q 0 0))).set b (bL 2 l g)):=by
 rw[←Py]
 refine(IX (nx:=2) (sq:=1) D [ev1] (List.pairwise_singleton _ _) [] (by decide) [] g 1 evW (by decide +kernel) (c:=ev1) (by decide +kernel) (by decide +kernel) (by decide +kernel) (by decide) (by decide) (by decide) (by decide)).mono ?_
 rintro v σ' ⟨q1,q2⟩
 refine⟨q1,q2.trans ?_⟩
 obtain⟨d1,d2,d3,d4,d5,d6⟩:=D
 have hw:wrC [ev1] 1 (eY ev1 evW)=[ev2]:=rfl
 rw[hw]
 funext j
 by_cases h1:j=b
 ·subst h1;simp[St.set]
 ·by_cases h2:j=l
  ·subst h2;simp[St.set,h1,Ne.symm d3]
  ·by_cases h3:j=q
   ·subst h3;simp[St.set,h1,h2,d2]
   ·by_cases h4:j=m
    ·subst h4;simp[St.set,h1,h2,h3]
    ·simp[St.set,h1,h2,h3,h4]
theorem Mw{m l q b n:Nat}(D:kE m l q b)(hn:n≠m∧n≠l∧n≠q∧n≠b) :
  aA Tryz.prog 15 [.ptr b 0 0,.vec 5 n 0 1,.int .u32 256] ((bkS m l q b bk1 []).set n (.row 121 5 [evN.c])) (fun r σ'=>∃f sm g v d,lZ m l q b f sm g v∧r=.ptr v 0 0∧σ'=vwS m l q b bk1 f [evN] d sm g v 256 Hq []) :=
 Dc (B:=bk1) (mk:=256) ⟨by decide,by decide,by decide,by decide,by decide +kernel,by decide +kernel,by decide,by decide,by decide +kernel⟩ (by decide) (fun g hg=>by cases hg) D hn tS (by decide)
theorem Mu{m l q b f sm g v:Nat}(V:lZ m l q b f sm g v)(d:Bool)(ex:List (List MV)):aA Tryz.prog 18 [.ptr v 0 0,.ptr b 0 0,.lst 2 ([((1:Int),(1:Int))].map chC) false] (vwS m l q b Ae f [evN] d sm g v 256 Hq ex) (fun _ σ'=>∃d' g' ex',lZ m l q b f sm g' v∧σ'=vwS m l q b Ae f [evN] d' sm g' v 256 BC ex'):=by
 have h:=sD Ms (by decide) (fun g hg=>by cases hg) (by decide) tS (mk:=256) V d Hq (by decide) ex [(1,1)] (by decide) false
 rw[JX] at h
 exact h
theorem Mv{m l q b f sm g v:Nat}(V:lZ m l q b f sm g v)(d:Bool)(ex:List (List MV)):aA Tryz.prog 18 [.ptr v 0 0,.ptr b 0 0,.lst 2 ([((2:Int),(1:Int))].map chC) false] (vwS m l q b Af f [evN] d sm g v 256 BC ex) (fun _ σ'=>∃d' g' ex',lZ m l q b f sm g' v∧σ'=vwS m l q b Af f [evN] d' sm g' v 256 Ek ex'):=by
 have h:=sD Mt (by decide) (fun g hg=>by cases hg) (by decide) tS (mk:=256) V d BC (by decide) ex [(2,1)] (by decide) false
 rw[JY] at h
 exact h
theorem Oo:∃X1 X2:List MV,Ek.log.map TU.c=[.int .i64 1::.int .i64 1::.int .i64 0::.int .i64 1::X1,.int .i64 2::.int .i64 1::.int .i64 1::.int .i64 0::X2]:=by
 refine⟨(cC ev1 256).c,ca0.c,?_⟩
 show[(iW 1 0 1 (cC ev1 256) true).c,(iW 2 1 1 (cC ca0 256) false).c]=_
 rw[show(iW 1 0 1 (cC ev1 256) true).c=.int .i64 1::.int .i64 1::.int .i64 0::.int .i64 (iW 1 0 1 (cC ev1 256) true).new::(cC ev1 256).c from rfl,Oq]
 rfl
theorem zZ:aA Tryz.prog 13 [] St.none (fun r _=>r=.bool true):=by
 refine aA.bZ (aA.body 66 [.tmp 0] Tryz.func13 rfl rfl rfl rfl ?_)
 have hnew:aA Tryz.prog 60 [] St.none _:=Bn
 repeat' (first|((refine Bg hnew ?_;intro m l q b hm hl hq hb D;clear hm hl hq hb;simp only[bk1,List.map_nil,List.length_nil];have D':=D;obtain⟨d1,d2,d3,d4,d5,d6⟩:=D;have e1:=Ne.symm d1;have e2:=Ne.symm d2;have e3:=Ne.symm d3;have e4:=Ne.symm d4;have e5:=Ne.symm d5;have e6:=Ne.symm d6))|(with_reducible first|(refine wT ?_;(first|((fail_if_success (have:=nl1));refine wN fun nl1 hnl=>?_)|refine wN fun _ hnl=>?_);revert hnl;(repeat refine wS fun _ _=>?_);intro hnl)|refine wE ?_|(refine wK ?_ ?_<;>intro h)|(refine wB ?_ ?_<;>intro h<;>simp only[h]))|simp(maxSteps:=4000000) (disch:=first|exact ddL|fail) only[go_sem,simprocAttr,Tryz.f13,FXs])
 have n1:nl1≠m:=by assumption
 have n2:nl1≠l:=by assumption
 have n3:nl1≠q:=by assumption
 have n4:nl1≠b:=by assumption
 refine L7 (Mw D' ⟨n1,n2,n3,n4⟩) (St.aD (DW (by simp[St.set, *,bk1]) (by simp[St.set, *,bk1]) (by simp[St.set, *,bk1]) (by simp[St.set, *,bk1])) (aJ _ _ _)) (by simp only[aX];exact⟨n4,n3,n2,n1,rfl⟩) fun f sm g v d V hf hs hg hv=>?_
 clear hf hs hg hv
 have VV:=V
 obtain⟨-,⟨f1,f2,f3,f4⟩,⟨s1,s2,s3,s4,s5⟩,⟨g1,g2,g3,g4,g5,g6⟩,⟨v1,v2,v3,v4,v5,v6,v7⟩⟩:=V
 have f1':=Ne.symm f1
 have f2':=Ne.symm f2
 have f3':=Ne.symm f3
 have f4':=Ne.symm f4
 have s1':=Ne.symm s1
 have s2':=Ne.symm s2
 have s3':=Ne.symm s3
 have s4':=Ne.symm s4
 have s5':=Ne.symm s5
 have g1':=Ne.symm g1
 have g2':=Ne.symm g2
 have g3':=Ne.symm g3
 have g4':=Ne.symm g4
 have g5':=Ne.symm g5
 have g6':=Ne.symm g6
 have v1':=Ne.symm v1
 have v2':=Ne.symm v2
 have v3':=Ne.symm v3
 have v4':=Ne.symm v4
 have v5':=Ne.symm v5
 have v6':=Ne.symm v6
 have v7':=Ne.symm v7
 repeat' (first|(with_reducible first|(refine wT ?_;(first|((fail_if_success (have:=nl1));refine wN fun nl1 hnl=>?_)|refine wN fun _ hnl=>?_);revert hnl;(repeat refine wS fun _ _=>?_);intro hnl)|refine wE ?_|(refine wK ?_ ?_<;>intro h)|(refine wB ?_ ?_<;>intro h<;>simp only[h]))|simp(maxSteps:=4000000) (disch:=first|exact ddL|fail) only[go_sem,simprocAttr,FXs])
 refine L5 (Om d1 d4 d5 (.vec 3 q 0 0) (.lst 2 [] false)) (OG (by simp[St.set, *]) (by simp[St.set, *]) (by simp[St.set, *])) ?_
 repeat' (first|(with_reducible first|(refine wT ?_;(first|((fail_if_success (have:=nl1));refine wN fun nl1 hnl=>?_)|refine wN fun _ hnl=>?_);revert hnl;(repeat refine wS fun _ _=>?_);intro hnl)|refine wE ?_|(refine wK ?_ ?_<;>intro h)|(refine wB ?_ ?_<;>intro h<;>simp only[h]))|simp(maxSteps:=4000000) (disch:=first|exact ddL|fail) only[go_sem,simprocAttr,FXs])
 refine L8 VV (Mu VV d []) (Oc (by show _=some (aW.mp (cEs [ev1]));simp[St.set, *]) (by show _=some (shO 2 m (.vec 3 q 0 0));simp[St.set, *]) (by show _=some (aW.row 197 3 []);simp[St.set, *]) (by show _=some (bL 1 l (.lst 2 [] false));simp[St.set, *]) (by simp[St.set, *]) (by simp[St.set, *]) (by simp[St.set, *]) (by simp[St.set, *])) fun r1 dd1 g' ex1 V1 hg'=>?_
 clear hg'
 have VV1:=V1
 obtain⟨-,-,-,⟨w1,w2,w3,w4,w5,w6⟩,⟨-,-,-,-,-,-,w7⟩⟩:=V1
 have w1':=Ne.symm w1
 have w2':=Ne.symm w2
 have w3':=Ne.symm w3
 have w4':=Ne.symm w4
 have w5':=Ne.symm w5
 have w6':=Ne.symm w6
 have w7':=Ne.symm w7
 repeat' (first|(with_reducible first|(refine wT ?_;(first|((fail_if_success (have:=nl1));refine wN fun nl1 hnl=>?_)|refine wN fun _ hnl=>?_);revert hnl;(repeat refine wS fun _ _=>?_);intro hnl)|refine wE ?_|(refine wK ?_ ?_<;>intro h)|(refine wB ?_ ?_<;>intro h<;>simp only[h]))|simp(maxSteps:=4000000) (disch:=first|exact ddL|fail) only[go_sem,simprocAttr,FXs])
 refine L5 (On D' (.lst 2 [] false)) (St.aD (St.aD (St.aD (St.aD (St.none_le _) (by simp[St.set, *])) (by show _=some (shO 2 m (.vec 3 q 0 0));simp[St.set, *])) (by show _=some (aW.row 197 3 []);simp[St.set, *])) (by simp[St.set, *])) ?_
 repeat' (first|(with_reducible first|(refine wT ?_;(first|((fail_if_success (have:=nl1));refine wN fun nl1 hnl=>?_)|refine wN fun _ hnl=>?_);revert hnl;(repeat refine wS fun _ _=>?_);intro hnl)|refine wE ?_|(refine wK ?_ ?_<;>intro h)|(refine wB ?_ ?_<;>intro h<;>simp only[h]))|simp(maxSteps:=4000000) (disch:=first|exact ddL|fail) only[go_sem,simprocAttr,FXs])
 refine L8 VV1 (Mv VV1 dd1 ex1) (Oc (by show _=some (aW.mp (cEs [ev2]));simp[St.set, *]) (by show _=some (shO 2 m (.vec 3 q 0 0));simp[St.set, *]) (by show _=some (aW.row 197 3 []);simp[St.set, *]) (by show _=some (bL 2 l (.lst 2 [] false));simp[St.set, *]) (by simp[St.set, *]) (by simp[St.set, *]) (by simp[St.set, *]) (by simp[St.set, *])) fun r2 dd2 k ex2 V2 hk=>?_
 clear hk
 have VV2:=V2
 obtain⟨-,-,-,⟨u1,u2,u3,u4,u5,u6⟩,⟨-,-,-,-,-,-,u7⟩⟩:=V2
 have u1':=Ne.symm u1
 have u2':=Ne.symm u2
 have u3':=Ne.symm u3
 have u4':=Ne.symm u4
 have u5':=Ne.symm u5
 have u6':=Ne.symm u6
 have u7':=Ne.symm u7
 repeat' (first|(with_reducible first|(refine wT ?_;(first|((fail_if_success (have:=nl1));refine wN fun nl1 hnl=>?_)|refine wN fun _ hnl=>?_);revert hnl;(repeat refine wS fun _ _=>?_);intro hnl)|refine wE ?_|(refine wK ?_ ?_<;>intro h)|(refine wB ?_ ?_<;>intro h<;>simp only[h]))|simp(maxSteps:=4000000) (disch:=first|exact ddL|fail) only[go_sem,simprocAttr,FXs])
 obtain⟨X1,X2,hX⟩:=Oo
 have hlog:=Fm u7 f sm 256 Ek.floor Ek.now Ek.log (by decide) ex2
 rw[hX] at hlog
 refine dB hlog (St.aD (St.aD (St.none_le _) (by simp[St.set, *])) (by simp[St.set, *])) ?_
 repeat' (first|(with_reducible first|(refine wT ?_;(first|((fail_if_success (have:=nl1));refine wN fun nl1 hnl=>?_)|refine wN fun _ hnl=>?_);revert hnl;(repeat refine wS fun _ _=>?_);intro hnl)|refine wE ?_|(refine wK ?_ ?_<;>intro h)|(refine wB ?_ ?_<;>intro h<;>simp only[h]))|simp(maxSteps:=4000000) (disch:=first|exact ddL|fail) only[go_sem,simprocAttr,FXs])
 all_goals first|exact⟨_,St.le_refl _,rfl⟩|exact⟨_,St.le_refl _⟩|trace_state
end

section
set_option maxRecDepth 100000
set_option maxHeartbeats 8000000
theorem A0(v f sm:Nat)(mk:UInt32)(floor now:Int)(log:MV):aA Tryz.prog 22 [.ptr v 0 0] (St.none.set v (vwO f mk sm floor now log)) (fun r σ'=>r=.int .i64 floor∧σ'=St.none.set v (vwO f mk sm floor now log)):=by
 refine(aA.body 9 [.tmp 2] Tryz.func22 rfl rfl rfl rfl ?_)
 repeat' (first|(with_reducible first|(refine wN fun _ hnl=>?_;revert hnl;(repeat refine wS fun _ _=>?_);intro hnl)|refine wE ?_|(refine wK ?_ ?_<;>intro h)|(refine wB ?_ ?_<;>intro h<;>simp only[h]))|simp(maxSteps:=4000000) (disch:=first|exact ddL|fail) only[go_sem,simprocAttr,Tryz.f22])
 all_goals exact⟨rfl,rfl⟩
theorem Fo(v f sm:Nat)(mk:UInt32)(floor now:Int)(log:MV):aA Tryz.prog 30 [.ptr v 0 0] (St.none.set v (vwO f mk sm floor now log)) (fun r σ'=>r=.int .i64 now∧σ'=St.none.set v (vwO f mk sm floor now log)):=by
 refine(aA.body 9 [.tmp 2] Tryz.func30 rfl rfl rfl rfl ?_)
 repeat' (first|(with_reducible first|(refine wN fun _ hnl=>?_;revert hnl;(repeat refine wS fun _ _=>?_);intro hnl)|refine wE ?_|(refine wK ?_ ?_<;>intro h)|(refine wB ?_ ?_<;>intro h<;>simp only[h]))|simp(maxSteps:=4000000) (disch:=first|exact ddL|fail) only[go_sem,simprocAttr,Tryz.f30])
 all_goals exact⟨rfl,rfl⟩
theorem Da(v f sm:Nat)(mk:UInt32)(floor now:Int)(log:MV):aA Tryz.prog 32 [.ptr v 0 0] (St.none.set v (vwO f mk sm floor now log)) (fun r σ'=>r=.int .u32 (mk.toNat:Int)∧σ'=St.none.set v (vwO f mk sm floor now log)):=by
 refine(aA.body 9 [.tmp 2] Tryz.func32 rfl rfl rfl rfl ?_)
 repeat' (first|(with_reducible first|(refine wN fun _ hnl=>?_;revert hnl;(repeat refine wS fun _ _=>?_);intro hnl)|refine wE ?_|(refine wK ?_ ?_<;>intro h)|(refine wB ?_ ?_<;>intro h<;>simp only[h]))|simp(maxSteps:=4000000) (disch:=first|exact ddL|fail) only[go_sem,simprocAttr,Tryz.f32])
 all_goals exact⟨rfl,rfl⟩
theorem C9(v f sm:Nat)(mk:UInt32)(floor now:Int)(log:List TU)(hl:log.length≤1000000):aA Tryz.prog 29 [.ptr v 0 0] (St.none.set v (vwO f mk sm floor now (.lst 31 (log.map TU.c) false))) (fun r σ'=>r=.lst 31 (log.map TU.c) false∧σ'=St.none.set v (vwO f mk sm floor now (.lst 31 (log.map TU.c) false))):=by
 refine(aA.body 10 [.tmp 2] Tryz.func29 rfl rfl rfl rfl ?_)
 have hc:=rT log hl false
 repeat' (first|(with_reducible first|refine up hc ?_)|(with_reducible first|(refine wN fun _ hnl=>?_;revert hnl;(repeat refine wS fun _ _=>?_);intro hnl)|refine wE ?_|(refine wK ?_ ?_<;>intro h)|(refine wB ?_ ?_<;>intro h<;>simp only[h]))|simp(maxSteps:=4000000) (disch:=first|exact ddL|fail) only[go_sem,simprocAttr,Tryz.f29])
 all_goals exact⟨rfl,rfl⟩
theorem C7{sm v:Nat}(hvs:v≠sm)(f:Nat){mk:UInt32}(floor now:Int){B:BK}(hb:BkR B)(h3:B.gr.length≤1000000)(h4:∀g,g∈B.gr→g.mem.length≤1000000){fl:List ND}(hp:bF fl=0)(tf:Bool)(log:List TU)(hl:log.length≤1000000)(tl:Bool) :
  aA Tryz.prog 34 [.ptr v 0 0,.agg [.lst 5 (fl.map ND.c) tf,.int .u32 (mk.toNat:Int),.int .i64 floor,.int .i64 now,.lst 31 (log.map TU.c) tl],.agg B.c] ((St.none.set sm (.mp (vEs (shC B fl)))).set v (vwO f mk sm floor now (.lst 31 (log.map TU.c) false))) (fun r σ'=>r=.bool true∧σ'=(St.none.set sm (.mp (vEs (shC B fl)))).set v (vwO f mk sm floor now (.lst 31 (log.map TU.c) false))):=by
 refine aA.less (Q':=fun r σ'=>r=.bool true∧((St.none.set sm (.mp (vEs (shC B fl)))).set v (vwO f mk sm floor now (.lst 31 (log.map TU.c) false))).le σ') (aA.body 42 [.tmp 6] Tryz.func34 rfl rfl rfl rfl ?_) fun r σ' h=>⟨_,h.2,h.1,rfl⟩
 have c1:=vN hvs (f:=f) mk floor now (.lst 31 (log.map TU.c) false) (Dl hb fl)
 have c2:=Ja B hb h3 h4 fl hp tf
 have c3:=Fs (Es B fl) (Es B fl) (by rw[BS,List.length_map];exact(Dl hb fl).2.2) false false
 rw[←BS] at c1
 obtain⟨I,hI⟩:∃I,(Es B fl).map aP=I:=⟨_,rfl⟩
 rw[hI] at c1 c2 c3
 rw[decide_eq_true rfl] at c3
 have c4:=C9 v f sm mk floor now log hl
 have c5:=Dr log log hl false tl
 rw[decide_eq_true rfl] at c5
 obtain⟨T,hT⟩:∃T,log.map TU.c=T:=⟨_,rfl⟩
 rw[hT] at c1 c4 c5 ⊢
 have c6:=A0 v f sm mk floor now (.lst 31 T false)
 have c7:=Fo v f sm mk floor now (.lst 31 T false)
 have c8:=Da v f sm mk floor now (.lst 31 T false)
 obtain⟨C,k1,k2,k3,k4,k5,k6,k7,k8⟩:∃C:bR,(∀ms,C 28 ms=some ⟨[v,sm],fun w=>w=.lst 1 I false,none⟩)∧(∀ms,C 101 ms=some ⟨[],fun w=>w=.lst 1 I false,none⟩)∧(∀ms,C 100 ms=some ⟨[],fun w=>w=.bool true,none⟩)∧(∀ms,C 29 ms=some ⟨[v],fun w=>w=.lst 31 T false,none⟩) ∧
   (∀ms,C 102 ms=some ⟨[],fun w=>w=.bool true,none⟩)∧(∀ms,C 22 ms=some ⟨[v],fun w=>w=.int .i64 floor,none⟩)∧(∀ms,C 30 ms=some ⟨[v],fun w=>w=.int .i64 now,none⟩)∧∀ms,C 32 ms=some ⟨[v],fun w=>w=.int .u32 (mk.toNat:Int),none⟩ :=
  ⟨fnF [(28,⟨[v,sm],fun w=>w=.lst 1 I false,none⟩),(101,⟨[],fun w=>w=.lst 1 I false,none⟩),(100,⟨[],fun w=>w=.bool true,none⟩),(29,⟨[v],fun w=>w=.lst 31 T false,none⟩),(102,⟨[],fun w=>w=.bool true,none⟩),(22,⟨[v],fun w=>w=.int .i64 floor,none⟩),(30,⟨[v],fun w=>w=.int .i64 now,none⟩),(32,⟨[v],fun w=>w=.int .u32 (mk.toNat:Int),none⟩)],
   fun _=>bO,fun _=>bC bO,fun _=>bC (bC bO),fun _=>bC (bC (bC bO)),fun _=>bC (bC (bC (bC bO))),fun _=>bC (bC (bC (bC (bC bO)))),fun _=>bC (bC (bC (bC (bC (bC bO))))),fun _=>bC (bC (bC (bC (bC (bC (bC bO))))))⟩
 have hsv:=Ne.symm hvs
 repeat' (first|(with_reducible first|(refine wN fun _ hnl=>?_;revert hnl;(repeat refine wS fun _ _=>?_);intro hnl)|refine wE ?_|(refine wK ?_ ?_<;>intro h)|(refine wB ?_ ?_<;>intro h<;>simp only[h]))|simp(maxSteps:=4000000) (disch:=first|exact ddL|fail) only[go_sem,simprocAttr,Tryz.f34,FXs])
 refine aK mixed (by decide +kernel) C ?_
 repeat' (first|(refine lI [v,sm] [vwO f mk sm floor now (.lst 31 T false),.mp (vEs (shC B fl))] (k1 _) (by simp[St.set, *]) c1 ?_)|(with_reducible refine aI (k2 _) c2 ?_)|(with_reducible refine aI (k3 _) c3 ?_)|(refine lI [v] [vwO f mk sm floor now (.lst 31 T false)] (k4 _) (by simp[St.set, *]) c4 ?_)|(with_reducible refine aI (k5 _) c5 ?_)|(refine lI [v] [vwO f mk sm floor now (.lst 31 T false)] (k6 _) (by simp[St.set, *]) c6 ?_)|(refine lI [v] [vwO f mk sm floor now (.lst 31 T false)] (k7 _) (by simp[St.set, *]) c7 ?_)|(refine lI [v] [vwO f mk sm floor now (.lst 31 T false)] (k8 _) (by simp[St.set, *]) c8 ?_)|(with_reducible first|(refine wN fun _ hnl=>?_;revert hnl;(repeat refine wS fun _ _=>?_);intro hnl)|refine wE ?_|(refine wK ?_ ?_<;>intro h)|(refine wB ?_ ?_<;>intro h<;>simp only[h]))|simp(maxSteps:=4000000) (disch:=first|exact ddL|fail) only[go_sem,simprocAttr,FXs])
 all_goals exact le2 (by simp[St.set, *]) (by simp[St.set, *])
structure S2 where
 bk:BK
 fl:List ND
 mask:UInt32
abbrev S2.c(s:S2):List MV:=s.bk.c++[.lst 5 (s.fl.map ND.c) false,.int .u32 (s.mask.toNat:Int)]
theorem xA(x:S2)(floor:Int)(log:List TU):aA Tryz.prog 6 [.agg x.c,.int .i64 floor,.lst 31 (log.map TU.c) false] St.none (fun r _=>r=.bool true):=by
 refine aA.bZ (aA.body 87 [.tmp 6] Tryz.func6 rfl rfl rfl rfl ?_)
 have l1:=Ma x.bk
 have l2:=Dm x.fl false
 have l3:=Mf log false
 have haw:=zZ
 obtain⟨lg,hlg⟩:∃z,oW x.fl=z:=⟨_,rfl⟩
 rw[hlg] at l2
 obtain⟨g,hg⟩:∃z,decide ((x.bk.cards.length≤60∧x.bk.dead.length≤60∧x.bk.gr.length≤1000000∧∀g,g∈x.bk.gr→g.mem.length≤1000000)∧lg=false∧log.length≤100)=z:=⟨_,rfl⟩
 cases g
 ·have hn:=of_decide_eq_false hg
  clear hg
  cases lg
  all_goals
   repeat' (first|((refine fG l1 ?_;rintro _ ⟨z1,rfl,hz1⟩;cases z1))|(refine aQ l2 ?_)|((refine fG l3 ?_;rintro _ ⟨z3,rfl,hz3⟩;cases z3))|(refine aQ haw ?_)|(with_reducible first|(refine wN fun _ hnl=>?_;revert hnl;(repeat refine wS fun _ _=>?_);intro hnl)|refine wE ?_|(refine wK ?_ ?_<;>intro h)|(refine wB ?_ ?_<;>intro h<;>simp only[h]))|simp(maxSteps:=4000000) (disch:=first|exact ddL|fail) only[go_sem,simprocAttr,Tryz.f6,FXs,List.map_cons,List.map_nil])
   all_goals first|exact⟨_,St.le_refl _,rfl⟩|exact⟨_,St.le_refl _⟩|exact absurd ⟨hz1 rfl,rfl,hz3 rfl⟩ hn
 ·obtain⟨⟨z1,z2,z3,z4⟩,rfl,z5⟩:=of_decide_eq_true hg
  clear hg
  have hfl:x.fl.length≤1000000:=by have:=hlg;unfold oW at this;simp only[Bool.or_eq_false_iff,decide_eq_false_iff_not] at this;omega
  have hlog:log.length≤1000000:=by omega
  have hbr:=yA x.bk (by omega) (by omega) z3 z4
  obtain⟨bo,hbo⟩:∃z,kG x.bk=z:=⟨_,rfl⟩
  rw[hbo] at hbr
  cases bo
  ·repeat' (first|((refine fG l1 ?_;rintro _ ⟨z1,rfl,hz1⟩;cases z1))|(refine aQ l2 ?_)|((refine fG l3 ?_;rintro _ ⟨z3,rfl,hz3⟩;cases z3))|(refine aQ hbr ?_)|(refine aQ haw ?_)|(with_reducible first|(refine wN fun _ hnl=>?_;revert hnl;(repeat refine wS fun _ _=>?_);intro hnl)|refine wE ?_|(refine wK ?_ ?_<;>intro h)|(refine wB ?_ ?_<;>intro h<;>simp only[h]))|simp(maxSteps:=4000000) (disch:=first|exact ddL|fail) only[go_sem,simprocAttr,Tryz.f6,FXs,List.map_cons,List.map_nil])
   all_goals first|exact⟨_,St.le_refl _,rfl⟩|exact⟨_,St.le_refl _⟩|trace_state
  ·have hb:=JK hbo
   have hld:=z6 (by omega) (by omega) z3 z4 hbo
   have hrv:=Fw x.bk hb z3 z4 x.fl false x.mask floor log hlog false
   obtain⟨vo,hvo⟩:∃z,eA x.bk x.fl x.mask floor log=z:=⟨_,rfl⟩
   rw[hvo] at hrv
   cases vo
   ·have hv:=fun {m l q b:Nat} (D:kE m l q b)=>I3 hb z3 z4 D [] hfl false floor log hlog hvo
    repeat' (first|((refine fG l1 ?_;rintro _ ⟨z1,rfl,hz1⟩;cases z1))|(refine aQ l2 ?_)|((refine fG l3 ?_;rintro _ ⟨z3,rfl,hz3⟩;cases z3))|(refine aQ hbr ?_)|(refine aQ haw ?_)|(refine aQ hrv ?_)|((refine Bg hld ?_;intro m l q b hm hl hq hbn D;simp only[aX] at hm hl hq hbn;obtain⟨m1,-⟩:=hm;obtain⟨l1,-⟩:=hl;obtain⟨q1,-⟩:=hq;obtain⟨b1,-⟩:=hbn;have m1':=Ne.symm m1;have l1':=Ne.symm l1;have q1':=Ne.symm q1;have b1':=Ne.symm b1;have D':=D;obtain⟨d1,d2,d3,d4,d5,d6⟩:=D;have e1:=Ne.symm d1;have e2:=Ne.symm d2;have e3:=Ne.symm d3;have e4:=Ne.symm d4;have e5:=Ne.symm d5;have e6:=Ne.symm d6))|(refine dB (hv (by assumption)) (DW (by simp[St.set, *]) (by simp[St.set, *]) (by simp[St.set, *]) (by simp[St.set, *])) ?_)|(with_reducible first|(refine wN fun _ hnl=>?_;revert hnl;(repeat refine wS fun _ _=>?_);intro hnl)|refine wE ?_|(refine wK ?_ ?_<;>intro h)|(refine wB ?_ ?_<;>intro h<;>simp only[h]))|simp(maxSteps:=4000000) (disch:=first|exact ddL|fail) only[go_sem,simprocAttr,Tryz.f6,FXs,List.map_cons,List.map_nil])
    all_goals first|exact⟨_,St.le_refl _,rfl⟩|exact⟨_,St.le_refl _⟩|trace_state
   ·have hv:=fun {m l q b:Nat} (D:kE m l q b)=>I4 hb z3 z4 D [] hfl false floor log hlog hvo
    have hp:=DL hvo
    have hsm:=fun {f sm v:Nat} (h:v≠sm)=>C7 h f (mk:=x.mask) floor x.bk.sq hb z3 z4 hp false log hlog false
    repeat' (first|((refine fG l1 ?_;rintro _ ⟨z1,rfl,hz1⟩;cases z1))|(refine aQ l2 ?_)|((refine fG l3 ?_;rintro _ ⟨z3,rfl,hz3⟩;cases z3))|(refine aQ hbr ?_)|(refine aQ haw ?_)|(refine aQ hrv ?_)|((refine Bg hld ?_;intro m l q b hm hl hq hbn D;simp only[aX] at hm hl hq hbn;obtain⟨m1,-⟩:=hm;obtain⟨l1,-⟩:=hl;obtain⟨q1,-⟩:=hq;obtain⟨b1,-⟩:=hbn;have m1':=Ne.symm m1;have l1':=Ne.symm l1;have q1':=Ne.symm q1;have b1':=Ne.symm b1;have D':=D;obtain⟨d1,d2,d3,d4,d5,d6⟩:=D;have e1:=Ne.symm d1;have e2:=Ne.symm d2;have e3:=Ne.symm d3;have e4:=Ne.symm d4;have e5:=Ne.symm d5;have e6:=Ne.symm d6))|((refine nC (hv (by assumption)) (DW (by simp[St.set, *]) (by simp[St.set, *]) (by simp[St.set, *]) (by simp[St.set, *])) ?_;intro f sm v d hf0 hs0 hv0 sf vf vs;simp only[aX] at hf0 hs0 hv0;obtain⟨f1,f2,f3,f4,f5,-⟩:=hf0;obtain⟨s1,s2,s3,s4,s5,-⟩:=hs0;obtain⟨v1,v2,v3,v4,v5,-⟩:=hv0;have f1':=Ne.symm f1;have f2':=Ne.symm f2;have f3':=Ne.symm f3;have f4':=Ne.symm f4;have f5':=Ne.symm f5;have s1':=Ne.symm s1;have s2':=Ne.symm s2;have s3':=Ne.symm s3;have s4':=Ne.symm s4;have s5':=Ne.symm s5;have v1':=Ne.symm v1;have v2':=Ne.symm v2;have v3':=Ne.symm v3;have v4':=Ne.symm v4;have v5':=Ne.symm v5;have vs':=Ne.symm vs;have vf':=Ne.symm vf;have sf':=Ne.symm sf))|((refine dB (hsm (f:=f) vs) (le2 (by simp[St.set, *]) (by simp[St.set, *])) ?_))|(with_reducible first|(refine wN fun _ hnl=>?_;revert hnl;(repeat refine wS fun _ _=>?_);intro hnl)|refine wE ?_|(refine wK ?_ ?_<;>intro h)|(refine wB ?_ ?_<;>intro h<;>simp only[h]))|simp(maxSteps:=4000000) (disch:=first|exact ddL|fail) only[go_sem,simprocAttr,Tryz.f6,FXs,List.map_cons,List.map_nil])
    all_goals first|exact⟨_,St.le_refl _,rfl⟩|exact⟨_,St.le_refl _⟩|trace_state
end

section
set_option maxRecDepth 100000
structure ASK where
 frm:Int
 cur:Int
 page:Int
 trim:Int
abbrev ASK.c(q:ASK):List MV:=[.int .i64 q.frm,.int .i64 q.cur,.int .i64 q.page,.int .i64 q.trim]
theorem os2{n:Nat}{x:List MV}(h:CT Tryz.prog (n+7) 92 x):∃s:S2,x=s.c:=by
 obtain⟨hl,hf⟩:=fX (congrArg TD.k NM) h
 rw[NM] at hl
 obtain⟨b,hb⟩:=PI (hf (0,47) (by simp))
 obtain⟨l,hh⟩:=OM (hf (5,22) (by simp))
 obtain⟨u,hu⟩:=PN (hf (6,23) (by simp))
 simp only[NK,OU,FD] at hb hh hu
 refine⟨⟨b,l,u⟩,?_⟩
 rw[jG hl [(0,5),(5,1),(6,1)] rfl]
 simp only[qF,hb,hh,hu]
 rfl
theorem as2{m:MV}(h:AT Tryz.prog 10 92 m):∃s:S2,m=.agg s.c:=by
 obtain⟨cs,rfl,h1⟩:=Of (by rw[NM];rfl) h
 obtain⟨x,rfl⟩:=os2 (n:=3) h1
 exact⟨x,rfl⟩
theorem Pf{m:MV}(h:AT Tryz.prog 10 3 m):∃n:Int,m=.int .i64 n:=by
 obtain⟨n,hn,_⟩:=Ef (by rw[td3]) (FW (by rw[td3];rfl) h)
 exact⟨n,FY hn⟩
theorem Og{m:MV}(h:AT Tryz.prog 10 77 m):∃l:List TU,m=.lst 31 (l.map TU.c) false:=by
 obtain⟨l,hl⟩:=ON (n:=4) (FW (by rw[NL];rfl) h)
 exact⟨l,FY hl⟩
end
end Go.Proofs.YtppdgejjmhdjhaaGreatDoor
