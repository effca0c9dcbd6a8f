/- Parts of the proof, joined; conditions: those that its theorems name. -/
import Derived.Test.YtaojijkdamfbnaaGreatDoorMfze
import Derived.Test.YtaojijkdamfbnaaGreatDoorMfzf
set_option linter.unusedVariables false
set_option linter.unusedSimpArgs false
set_option maxHeartbeats 4000000
namespace Go.Proofs.YtaojijkdamfbnaaGreatDoor
section
set_option maxRecDepth 100000
set_option maxHeartbeats 8000000
theorem aA.JY{P:Program}{g:FuncId}{ms:List MV}{σ:St}{X:MV}{Q:St→Prop}(h:aA P g ms σ fun v σ'=>∃τ σv:St,Q τ∧σv.le σ'∧τ.le σ'∧(∀k o,τ k=some o→σv k=none)∧View σv v X):aA P g ms σ fun v σ'=>v=X∧Q σ' :=
 aA.ghost (h.mono fun v σ' ⟨τ,σv,h0,h1,h2,h3,h4⟩=>⟨X,τ,bD.freeze σv h1 h2 h3 (fun p hp=>by
  simp at hp
  subst hp
  simpa[bY] using h4),rfl,h0⟩)
noncomputable abbrev bfS(m l q b:Nat)(B:BK)(f:Nat)(fl:List ND)(d:Bool):St:=(bkS m l q b B []).set f (flD fl d)
theorem H4{m l q b f pb pf:Nat}{B:BK}{fl:List ND}(d0:Bool){d:Bool}{τ S:St}(DI:Fq m l q b f pb pf)(hτ:(alI m l q b B [] fl f pb pf d).le τ):(bfS m l q b B f fl d).le ((alI m l q b B [] fl f pb pf d0).gF τ S):=by
 obtain⟨⟨f1,f2,f3,f4⟩,⟨p1,p2,p3,p4,p5⟩,⟨r1,r2,r3,r4,r5,r6⟩⟩:=DI
 intro k o hk
 have hd:k=f∨k=b∨k=q∨k=l∨k=m:=by
  rcases gE hk with⟨e,_⟩|⟨_,h⟩
  ·exact .inl e
  rcases gE h with⟨e,_⟩|⟨_,h⟩
  ·exact .inr (.inl e)
  rcases gE h with⟨e,_⟩|⟨_,h⟩
  ·exact .inr (.inr (.inl e))
  rcases gE h with⟨e,_⟩|⟨_,h⟩
  ·exact .inr (.inr (.inr (.inl e)))
  rcases gE h with⟨e,_⟩|⟨_,h⟩
  ·exact .inr (.inr (.inr (.inr e)))
  ·cases h
 have k1:k≠pb:=fun e=>by
  subst e
  rcases hd with e|e|e|e|e
  ·exact p5 e
  ·exact p4 e
  ·exact p3 e
  ·exact p2 e
  ·exact p1 e
 have k2:k≠pf:=fun e=>by
  subst e
  rcases hd with e|e|e|e|e
  ·exact r5 e
  ·exact r4 e
  ·exact r3 e
  ·exact r2 e
  ·exact r1 e
 have h1:alI m l q b B [] fl f pb pf d k=some o:=(aG _ _ _ _ k2).trans ((aG _ _ _ _ k1).trans hk)
 have h2:alI m l q b B [] fl f pb pf d0 k≠none:=by
  have:bfS m l q b B f fl d k≠none:=by rw[hk];exact fun e=>by cases e
  simp only[oL] at this ⊢
  exact .inr (.inr this)
 unfold St.gF
 rw[if_pos (Option.isSome_iff_ne_none.2 h2)]
 exact hτ k o h1
theorem qA{σi τ σ:St}{k:Nat}{o:aV}(hk:σ k=some o)(h:σi k=none):σi.gF τ σ k=some o:=by
 unfold St.gF
 rw[h]
 exact hk
abbrev inS(n1 q j:Nat)(R ex:List (List MV)):St:=(St.none.set n1 (.row 46 1 [[.vec 1 q 0 j]])).set q (.row 3 1 (R++ex))
abbrev idX(c:CA):List MV:=[.int .i64 c.id]
theorem oE{B:BK}(hb:BkR B)(h3:B.gr.length≤1000000)(h4:∀g,g∈B.gr→g.mem.length≤1000000){m l q b f:Nat}(D:jP m l q b)(hf:f≠m∧f≠l∧f≠q∧f≠b){fl:List ND}(hp:bI fl=0)(d:Bool) :
  aA Tryz.prog 15 [.ptr b 0 0,.ptr f 0 0] (bfS m l q b B f fl d) (fun r σ'=>r=.lst 1 ((shC B fl).map idX) false∧σ'=bfS m l q b B f fl (d || decide (0<B.cards.length))):=by
 obtain⟨d',hd'⟩:∃d',(d || decide (0<B.cards.length))=d':=⟨_,rfl⟩
 rw[hd']
 refine aA.JY (Q:=fun σ'=>σ'=bfS m l q b B f fl d') (aA.body 17 [.tmp 4] Tryz.func15 rfl rfl rfl rfl ?_)
 obtain⟨f1,f2,f3,f4⟩:=hf
 have hal:=xO b f
 have hseq:=fun {pb pf:Nat} (DI:Fq m l q b f pb pf)=>xP hb h3 h4 D DI [] hp d
 obtain⟨X,hX⟩:∃X,shC B fl=X:=⟨_,rfl⟩
 have hXl:X.length≤1000000:=by rw[←hX];exact(pG hb fl).2.2
 simp only[hX,hd'] at hseq ⊢
 repeat' (first|(refine pQ hal ?_;(intro pb pf hpb hpf hne;have hpb1:=hpb;have hpf1:=hpf;simp only[aX] at hpb1 hpf1))|(with_reducible first|(refine wT ?_;(first|((fail_if_success (have:=nl1));refine wN fun nl1 hnl=>?_)|((fail_if_success (have:=nl2));refine wN fun nl2 hnl=>?_)|((fail_if_success (have:=nl3));refine wN fun nl3 hnl=>?_)|((fail_if_success (have:=nl4));refine wN fun nl4 hnl=>?_)|refine wN fun _ hnl=>?_);revert hnl;(repeat refine wS fun _ _=>?_);intro hnl)|refine wE ?_|(refine wK ?_ ?_<;>intro h)|(refine wB ?_ ?_<;>intro h<;>simp only[h]))|simp(maxSteps:=4000000) (disch:=first|exact ddL|fail) only[go_sem,simprocAttr,Tryz.f15])
 obtain⟨b1,b4,b5,b6,b7,b8,-⟩:=hpb1
 obtain⟨c1,c4,c5,c6,c7,c8,-⟩:=hpf1
 have g1:nl1≠f:=by assumption
 have ha:∀{k:Nat},k≠m→k≠l→k≠q→k≠b→bkS m l q b B [] k=none:=fun h1 h2 h3 h4=>by simp only[aX];exact⟨h4,h3,h2,h1,rfl⟩
 have m1:bkS m l q b B [] nl1=none:=ha (by assumption) (by assumption) (by assumption) (by assumption)
 have hxl:(cdX X).length=X.length:=List.length_map _
 have aI:∀k,alI m l q b B [] fl f pb pf d k=(if k=pf then some (.row 36 1 [[.ptr f 0 0]]) else if k=pb then some (.row 33 1 [[.ptr b 0 0]]) else if k=f then some (flD fl d) else bkS m l q b B [] k):=fun k=>rfl
 have DI:Fq m l q b f pb pf:=⟨⟨f1,f2,f3,f4⟩,⟨b8,b7,b6,b5,b4⟩,⟨c8,c7,c6,c5,c4,hne⟩⟩
 refine fD (mC (gf:=95) (xs:=cdX X) rfl (σi:=alI m l q b B [] fl f pb pf d) (fun j o hj=>?_) (K:=fun τ=>(alI m l q b B [] fl f pb pf d').le τ) (fun τ hτ=>?_) (hseq DI) ?_ rfl rfl
  (fc:=⟨17,[(5,.ptr nl1 0 0)],[]⟩) rfl (α:=Nat × List (List MV))
  (fun j a=>inS nl1 a.1 j ((X.take j).map idX) a.2) (fun j a=>a.1≠nl1) ?_ ?_ ?_)
 ·rw[aI] at hj
  by_cases j1:j=pf
  ·subst j1;rw[if_pos rfl] at hj;rw[aF];exact hj
  ·rw[if_neg j1] at hj
   rw[aG _ _ _ _ j1]
   by_cases j2:j=pb
   ·subst j2;rw[if_pos rfl] at hj;rw[aF];exact hj
   ·rw[if_neg j2] at hj
    rw[aG _ _ _ _ j2]
    by_cases j3:j=f
    ·subst j3
     rw[if_pos rfl] at hj
     exact(aG _ _ _ _ (Ne.symm g1)).trans ((aF _ _ _).trans hj)
    ·rw[if_neg j3] at hj
     exact(aG _ _ _ _ (fun e=>by subst e;rw[m1] at hj;cases hj)).trans ((aG _ _ _ _ j3).trans hj)
 ·exact Iy d' d (fun x hx=>by cases hx) hτ
 ·intro x hx
  obtain⟨y,_,rfl⟩:=List.mem_map.1 hx
  rfl
 ·have aN:∀{k:Nat},k≠pf→k≠pb→k≠f→bkS m l q b B [] k=none→alI m l q b B [] fl f pb pf d k=none:=fun h1 h2 h3 h4=>by rw[aI,if_neg h1,if_neg h2,if_neg h3];exact h4
  have s1:=aN (Ne.symm c1) (Ne.symm b1) g1 m1
  have t1:(((((bkS m l q b B []).set f (flD fl d)).set nl1 (.row 46 1 [[.bC]])).set pb (.row 33 1 [[.ptr b 0 0]])).set pf (.row 36 1 [[.ptr f 0 0]])) nl1=some (.row 46 1 [[.bC]]):=by
   rw[aG _ _ _ _ (Ne.symm c1),aG _ _ _ _ (Ne.symm b1),aF]
  have k1:((((((bkS m l q b B []).set f (flD fl d)).set nl1 (.row 46 1 [[.bC]])).set pb (.row 33 1 [[.ptr b 0 0]])).set pf (.row 36 1 [[.ptr f 0 0]])).minus (alI m l q b B [] fl f pb pf d)) nl1=some (.row 46 1 [[.bC]]):=by
   unfold St.minus
   rw[s1]
   exact t1
  refine Gh.rH (b:=nl1) (t:=46) (e:=1) (pre:=[]) (post:=[]) 3 1 k1 fun z hz=>?_
  have z1:z≠nl1:=fun e=>by subst e;rw[k1] at hz;cases hz
  refine .of (.less (l1:=[(5,.ptr nl1 0 0)]) ?_ (σ1:=inS nl1 z 0 [] []) ?_) ⟨rfl,(z,[]),rfl,z1⟩
  ·simp(maxSteps:=4000000) (disch:=first|exact ddL|fail) only[go_sem,simprocAttr,aC,aB]
   all_goals first|rfl|(simp;done)
  ·refine St.lE (St.lE (St.none_le _))
 ·rintro j x ⟨z,xx⟩ hx z1
  simp only at z1 ⊢
  have hjl:j<X.length:=by
   have:=(List.getElem?_eq_some_iff.1 hx).1
   rwa [hxl] at this
  obtain⟨c,hc⟩:=bO X hjl
  have hxe:x=[.agg c.c]:=by
   rw[List.getElem?_map,hc] at hx
   exact(Option.some.inj hx).symm
  subst hxe
  have z1':=Ne.symm z1
  have htk:=a8 hc
  have hRl:((X.take j).map idX).length=j:=by rw[List.length_map,List.length_take];omega
  have hsn:(X.take (j+1)).map idX=(X.take j).map idX++[idX c]:=by rw[htk,List.map_append];rfl
  obtain⟨RR,hRR⟩:∃RR,(X.take j).map idX=RR:=⟨_,rfl⟩
  rw[hRR] at hRl hsn ⊢
  have hdr:(RR++xx).drop (j+1)=xx.drop 1:=by rw[←hRl,←List.drop_drop,List.drop_left'];rfl
  have htk':(RR++xx).take j=RR:=by rw[←hRl,List.take_left'];rfl
  change mwp _ _ (FR.mk 17 [(10,.agg c.c),(5,.ptr nl1 0 0)] []) _ _
  refine iR ?_
  repeat' (first|(with_reducible first|(refine wT ?_;(first|((fail_if_success (have:=nl1));refine wN fun nl1 hnl=>?_)|((fail_if_success (have:=nl2));refine wN fun nl2 hnl=>?_)|((fail_if_success (have:=nl3));refine wN fun nl3 hnl=>?_)|((fail_if_success (have:=nl4));refine wN fun nl4 hnl=>?_)|refine wN fun _ hnl=>?_);revert hnl;(repeat refine wS fun _ _=>?_);intro hnl)|refine wE ?_|(refine wK ?_ ?_<;>intro h)|(refine wB ?_ ?_<;>intro h<;>simp only[h]))|simp(maxSteps:=4000000) (disch:=first|exact ddL|fail) only[go_sem,simprocAttr,FXs])
  refine fD (iR ?_)
  repeat' (first|(with_reducible first|(refine wT ?_;(first|((fail_if_success (have:=nl1));refine wN fun nl1 hnl=>?_)|((fail_if_success (have:=nl2));refine wN fun nl2 hnl=>?_)|((fail_if_success (have:=nl3));refine wN fun nl3 hnl=>?_)|((fail_if_success (have:=nl4));refine wN fun nl4 hnl=>?_)|refine wN fun _ hnl=>?_);revert hnl;(repeat refine wS fun _ _=>?_);intro hnl)|refine wE ?_|(refine wK ?_ ?_<;>intro h)|(refine wB ?_ ?_<;>intro h<;>simp only[h]))|simp(maxSteps:=4000000) (disch:=first|exact ddL|fail) only[go_sem,simprocAttr,FXs,htk',hdr,hRl])
  all_goals (try (exfalso;omega))
  all_goals
   have p1:nl4≠nl1:=by assumption
   have p2:nl4≠nl2:=by assumption
   have p3:nl4≠nl3:=by assumption
   clear hseq hal ha hdr htk' hX
  ·have hex:xx=[]:=List.eq_nil_of_length_eq_zero (by omega)
   subst hex
   clear h
   refine .of (bD.less (l1:=[]) (fun p hp=>by cases hp) (σ1:=inS nl1 nl4 (j+1) (RR++[idX c]) []) ?_) ⟨(nl4,[]),by rw[hsn],p1⟩
   clear aI
   exact St.aD (St.aD (St.none_le _) (by simp[St.set, *])) (by simp[St.set, *])
  ·refine .of (bD.less (l1:=[]) (fun p hp=>by cases hp) (σ1:=inS nl1 nl4 (j+1) (RR++[idX c]) (xx.drop 1)) ?_) ⟨(nl4,xx.drop 1),by rw[hsn],p1⟩
   clear h aI
   exact St.aD (St.aD (St.none_le _) (by simp[St.set, *])) (by simp[St.set, *])
 ·rintro⟨z,xx⟩ z1 τ hτ hout
  simp only[hxl,List.take_length] at z1 hout ⊢
  have o1:=hout nl1 _ ((aG _ _ _ _ (Ne.symm z1)).trans (aF _ _ _))
  have o2:=hout z _ (aF _ _ _)
  have hle:(((bfS m l q b B f fl d').set nl1 (.row 46 1 [[.vec 1 z 0 X.length]])).set z (.row 3 1 (X.map idX++xx))).le ((alI m l q b B [] fl f pb pf d).gF τ (inS nl1 z X.length (X.map idX) xx)) :=
   St.aD (St.aD (H4 d DI hτ) (qA ((aG _ _ _ _ (Ne.symm z1)).trans (aF _ _ _)) o1)) (qA (aF _ _ _) o2)
  refine .of (bD.less (l1:=[(5,.ptr nl1 0 0)]) ?_ hle) ?_
  ·simp(maxSteps:=4000000) (disch:=first|exact ddL|fail) only[go_sem,simprocAttr,aC,aB]
   all_goals first|rfl|(simp;done)
  have o3:=o2
  simp only[aX] at o3
  obtain⟨w1,w2,w3,w4,w5,w6,w7,-⟩:=o3
  have n1:bfS m l q b B f fl d' nl1=none:=by simp only[aX];exact⟨g1,by assumption,by assumption,by assumption,by assumption,rfl⟩
  have n2:bfS m l q b B f fl d' z=none:=by simp only[aX];exact⟨w3,w4,w5,w6,w7,rfl⟩
  show R _
  repeat' (first|(with_reducible first|(refine wT ?_;(first|((fail_if_success (have:=nl1));refine wN fun nl1 hnl=>?_)|((fail_if_success (have:=nl2));refine wN fun nl2 hnl=>?_)|((fail_if_success (have:=nl3));refine wN fun nl3 hnl=>?_)|((fail_if_success (have:=nl4));refine wN fun nl4 hnl=>?_)|refine wN fun _ hnl=>?_);revert hnl;(repeat refine wS fun _ _=>?_);intro hnl)|refine wE ?_|(refine wK ?_ ?_<;>intro h)|(refine wB ?_ ?_<;>intro h<;>simp only[h]))|simp(maxSteps:=4000000) (disch:=first|exact ddL|fail) only[go_sem,simprocAttr])
  refine⟨bfS m l q b B f fl d',St.none.set z (.row 3 1 (X.map idX++xx)),rfl,St.aD (St.none_le _) (aF _ _ _),fun k o hk=>?_,fun k o hk=>?_,cB (aF _ _ _) (by rw[List.length_map])⟩
  ·rw[aG _ _ _ _ (fun e=>by subst e;rw[n2] at hk;cases hk),aG _ _ _ _ (fun e=>by subst e;rw[n1] at hk;cases hk)]
   exact hk
  ·rw[aG _ _ _ _ (fun e=>by subst e;rw[n2] at hk;cases hk)]
   rfl
end

section
set_option maxRecDepth 100000
set_option maxHeartbeats 8000000
theorem B9{Q:St→Prop}{τ σ':St}{z e n:Nat}{t:TypeId}{xs ex:List (List MV)}(hQ:Q τ)(hz:σ' z=some (.row t e (xs++ex)))(hle:τ.le σ')(hn:τ z=none)(hl:n=xs.length) :
  ∃τ σv:St,Q τ∧σv.le σ'∧τ.le σ'∧(∀k o,τ k=some o→σv k=none)∧View σv (.vec e z 0 n) (.lst e xs false) :=
 ⟨τ,St.none.set z (.row t e (xs++ex)),hQ,St.aD (St.none_le _) hz,hle,fun k o hk=>(aG _ _ _ _ (fun h=>by subst h;rw[hn] at hk;cases hk)).trans rfl,cB (aF _ _ _) hl⟩
theorem pC{B:BK}(hb:BkR B)(h3:B.gr.length≤1000000)(h4:∀g,g∈B.gr→g.mem.length≤1000000){m l q b f:Nat}(D:jP m l q b)(hf:f≠m∧f≠l∧f≠q∧f≠b){fl:List ND}(hp:bI fl=0)(d:Bool)(mk:UInt32)(cur:Int) :
  aA Tryz.prog 16 [.ptr b 0 0,.ptr f 0 0,.int .u32 (mk.toNat:Int),.int .i64 cur] (bfS m l q b B f fl d) (fun r σ'=>r=.lst 27 ((eX B fl mk cur).map CA.c) false∧σ'=bfS m l q b B f fl (d || decide (0<B.cards.length))):=by
 obtain⟨d',hd'⟩:∃d',(d || decide (0<B.cards.length))=d':=⟨_,rfl⟩
 rw[hd']
 refine aA.JY (Q:=fun σ'=>σ'=bfS m l q b B f fl d') (aA.body 26 [.tmp 8] Tryz.func16 rfl rfl rfl rfl ?_)
 obtain⟨f1,f2,f3,f4⟩:=hf
 have hal:=xO b f
 have hseq:=fun {pb pf:Nat} (DI:Fq m l q b f pb pf)=>xP hb h3 h4 D DI [] hp d
 obtain⟨X,hX⟩:∃X,shC B fl=X:=⟨_,rfl⟩
 have hres:∀{j:Nat},j≤X.length→(∀c,c∈X.take j→c.id≤cur)→(j=X.length∨∃c,X[j]?=some c∧cur<c.id)→(eX B fl mk cur).map CA.c=((X.take j).map fun c=>gM c mk).map CA.c:=by
  subst hX
  exact fun hj h1 h2=>congrArg _ (C9 hb hj h1 h2)
 have hXl:X.length≤1000000:=by rw[←hX];exact(pG hb fl).2.2
 simp only[hX,hd'] at hseq
 repeat' (first|(refine pQ hal ?_;(intro pb pf hpb hpf hne;have hpb1:=hpb;have hpf1:=hpf;simp only[aX] at hpb1 hpf1))|(with_reducible first|(refine wT ?_;(first|((fail_if_success (have:=nl1));refine wN fun nl1 hnl=>?_)|((fail_if_success (have:=nl2));refine wN fun nl2 hnl=>?_)|((fail_if_success (have:=nl3));refine wN fun nl3 hnl=>?_)|((fail_if_success (have:=nl4));refine wN fun nl4 hnl=>?_)|((fail_if_success (have:=nl5));refine wN fun nl5 hnl=>?_)|((fail_if_success (have:=nl6));refine wN fun nl6 hnl=>?_)|refine wN fun _ hnl=>?_);revert hnl;(repeat refine wS fun _ _=>?_);intro hnl)|refine wE ?_|(refine wK ?_ ?_<;>intro h)|(refine wB ?_ ?_<;>intro h<;>simp only[h]))|simp(maxSteps:=4000000) (disch:=first|exact ddL|fail) only[go_sem,simprocAttr,Tryz.f16])
 obtain⟨b1,b2,b3,b4,b5,b6,b7,b8,-⟩:=hpb1
 obtain⟨c1,c2,c3,c4,c5,c6,c7,c8,-⟩:=hpf1
 have n21:nl2≠nl1:=by assumption
 have n31:nl3≠nl1:=by assumption
 have n32:nl3≠nl2:=by assumption
 have n12:=Ne.symm n21
 have n13:=Ne.symm n31
 have n23:=Ne.symm n32
 have g1:nl1≠f:=by assumption
 have g2:nl2≠f:=by assumption
 have g3:nl3≠f:=by assumption
 have ha:∀{k:Nat},k≠m→k≠l→k≠q→k≠b→bkS m l q b B [] k=none:=fun h1 h2 h3 h4=>by simp only[aX];exact⟨h4,h3,h2,h1,rfl⟩
 have m1:bkS m l q b B [] nl1=none:=ha (by assumption) (by assumption) (by assumption) (by assumption)
 have m2:bkS m l q b B [] nl2=none:=ha (by assumption) (by assumption) (by assumption) (by assumption)
 have m3:bkS m l q b B [] nl3=none:=ha (by assumption) (by assumption) (by assumption) (by assumption)
 have hxl:(cdX X).length=X.length:=List.length_map _
 have aI:∀k,alI m l q b B [] fl f pb pf d k=(if k=pf then some (.row 36 1 [[.ptr f 0 0]]) else if k=pb then some (.row 33 1 [[.ptr b 0 0]]) else if k=f then some (flD fl d) else bkS m l q b B [] k):=fun k=>rfl
 have DI:Fq m l q b f pb pf:=⟨⟨f1,f2,f3,f4⟩,⟨b8,b7,b6,b5,b4⟩,⟨c8,c7,c6,c5,c4,hne⟩⟩
 refine fD (mC (gf:=95) (xs:=cdX X) rfl (σi:=alI m l q b B [] fl f pb pf d) (fun j o hj=>?_) (K:=fun τ=>(alI m l q b B [] fl f pb pf d').le τ) (fun τ hτ=>?_) (hseq DI) ?_ rfl rfl
  (fc:=⟨26,[(9,.ptr nl3 0 0),(7,.ptr nl2 0 0),(6,.ptr nl1 0 0)],[]⟩) rfl (α:=Nat × List (List MV))
  (fun j a=>idS nl1 nl2 nl3 a.1 mk cur j (((X.take j).map fun c=>gM c mk).map CA.c) a.2) (fun j a=>a.1≠nl1∧a.1≠nl2∧a.1≠nl3∧∀c,c∈X.take j→c.id≤cur) ?_ ?_ ?_)
 ·rw[aI] at hj
  by_cases j1:j=pf
  ·subst j1;rw[if_pos rfl] at hj;rw[aF];exact hj
  ·rw[if_neg j1] at hj
   rw[aG _ _ _ _ j1]
   by_cases j2:j=pb
   ·subst j2;rw[if_pos rfl] at hj;rw[aF];exact hj
   ·rw[if_neg j2] at hj
    rw[aG _ _ _ _ j2]
    by_cases j3:j=f
    ·subst j3
     rw[if_pos rfl] at hj
     exact(aG _ _ _ _ (Ne.symm g3)).trans ((aG _ _ _ _ (Ne.symm g2)).trans ((aG _ _ _ _ (Ne.symm g1)).trans ((aF _ _ _).trans hj)))
    ·rw[if_neg j3] at hj
     exact(aG _ _ _ _ (fun e=>by subst e;rw[m3] at hj;cases hj)).trans ((aG _ _ _ _ (fun e=>by subst e;rw[m2] at hj;cases hj)).trans ((aG _ _ _ _ (fun e=>by subst e;rw[m1] at hj;cases hj)).trans ((aG _ _ _ _ j3).trans hj)))
 ·exact Iy d' d (fun x hx=>by cases hx) hτ
 ·intro x hx
  obtain⟨y,_,rfl⟩:=List.mem_map.1 hx
  rfl
 ·have aN:∀{k:Nat},k≠pf→k≠pb→k≠f→bkS m l q b B [] k=none→alI m l q b B [] fl f pb pf d k=none:=fun h1 h2 h3 h4=>by rw[aI,if_neg h1,if_neg h2,if_neg h3];exact h4
  have s1:=aN (Ne.symm c3) (Ne.symm b3) g1 m1
  have s2:=aN (Ne.symm c2) (Ne.symm b2) g2 m2
  have s3:=aN (Ne.symm c1) (Ne.symm b1) g3 m3
  have t1:((((((bkS m l q b B []).set f (flD fl d)).set nl1 (.row 28 1 [[.int .u32 (mk.toNat:Int)]])).set nl2 (.row 3 1 [[.int .i64 cur]])).set nl3 (.row 22 1 [[.bC]])).set pb (.row 33 1 [[.ptr b 0 0]])).set pf (.row 36 1 [[.ptr f 0 0]]) nl3=some (.row 22 1 [[.bC]]):=by
   rw[aG _ _ _ _ (Ne.symm c1),aG _ _ _ _ (Ne.symm b1),aF]
  refine Gh.rH (b:=nl3) (t:=22) (e:=1) (pre:=[]) (post:=[]) 42 27 ?_ fun z hz=>?_
  ·unfold St.minus
   rw[s3]
   exact t1
  ·have lk:∀{k:Nat} {o:aV},alI m l q b B [] fl f pb pf d k=none→((((((bkS m l q b B []).set f (flD fl d)).set nl1 (.row 28 1 [[.int .u32 (mk.toNat:Int)]])).set nl2 (.row 3 1 [[.int .i64 cur]])).set nl3 (.row 22 1 [[.bC]])).set pb (.row 33 1 [[.ptr b 0 0]])).set pf (.row 36 1 [[.ptr f 0 0]]) k=some o→((((((((bkS m l q b B []).set f (flD fl d)).set nl1 (.row 28 1 [[.int .u32 (mk.toNat:Int)]])).set nl2 (.row 3 1 [[.int .i64 cur]])).set nl3 (.row 22 1 [[.bC]])).set pb (.row 33 1 [[.ptr b 0 0]])).set pf (.row 36 1 [[.ptr f 0 0]])).minus (alI m l q b B [] fl f pb pf d)) k=some o:=fun h1 h2=>by
    unfold St.minus
    rw[h1]
    exact h2
   have k1:=lk (o:=.row 28 1 [[.int .u32 (mk.toNat:Int)]]) s1 (by rw[aG _ _ _ _ (Ne.symm c3),aG _ _ _ _ (Ne.symm b3),aG _ _ _ _ n13,aG _ _ _ _ n12,aF])
   have k2:=lk (o:=.row 3 1 [[.int .i64 cur]]) s2 (by rw[aG _ _ _ _ (Ne.symm c2),aG _ _ _ _ (Ne.symm b2),aG _ _ _ _ n23,aF])
   have k3:=lk s3 t1
   have z1:z≠nl1:=fun e=>by subst e;rw[k1] at hz;cases hz
   have z2:z≠nl2:=fun e=>by subst e;rw[k2] at hz;cases hz
   have z3:z≠nl3:=fun e=>by subst e;rw[k3] at hz;cases hz
   refine .of (.less (l1:=[(9,.ptr nl3 0 0),(7,.ptr nl2 0 0),(6,.ptr nl1 0 0)]) ?_ (σ1:=idS nl1 nl2 nl3 z mk cur 0 [] []) ?_) ⟨rfl,(z,[]),rfl,z1,z2,z3,by simp⟩
   ·simp(maxSteps:=4000000) (disch:=first|exact ddL|fail) only[go_sem,simprocAttr,aC,aB]
    all_goals first|rfl|(simp;done)
   ·refine St.lE (St.lE (St.aD (St.aD (St.none_le _) k1) k2))
 ·rintro j x ⟨z,xx⟩ hx ⟨z1,z2,z3,hcu⟩
  simp only at z1 z2 z3 hcu ⊢
  have hjl:j<X.length:=by
   have:=(List.getElem?_eq_some_iff.1 hx).1
   rwa [hxl] at this
  obtain⟨c,hc⟩:=bO X hjl
  have hxe:x=[.agg c.c]:=by
   rw[List.getElem?_map,hc] at hx
   exact(Option.some.inj hx).symm
  subst hxe
  have z1':=Ne.symm z1
  have z2':=Ne.symm z2
  have z3':=Ne.symm z3
  have htk:=a8 hc
  have hpj:=D8 c mk
  have hRl:(((X.take j).map fun c=>gM c mk).map CA.c).length=j:=by rw[List.length_map,List.length_map,List.length_take];omega
  have hsn:((X.take (j+1)).map fun c=>gM c mk).map CA.c=((X.take j).map fun c=>gM c mk).map CA.c++[(gM c mk).c]:=by rw[htk,List.map_append,List.map_append];rfl
  have hre:=hres (Nat.le_of_lt hjl) hcu
  obtain⟨RR,hRR⟩:∃RR,((X.take j).map fun c=>gM c mk).map CA.c=RR:=⟨_,rfl⟩
  rw[hRR] at hRl hsn hre ⊢
  have hdr:(RR++xx).drop (j+1)=xx.drop 1:=by rw[←hRl,←List.drop_drop,List.drop_left'];rfl
  have htk':(RR++xx).take j=RR:=by rw[←hRl,List.take_left'];rfl
  obtain⟨C,k1⟩:∃C:b9,∀ms,C 53 ms=some ⟨[],fun v=>v=.agg (gM c mk).c,none⟩:=⟨AH 53 (.agg (gM c mk).c),fun _=>kB⟩
  obtain⟨pc,hpc⟩:∃pc,gM c mk=pc:=⟨_,rfl⟩
  rw[hpc] at hpj hsn k1
  change mwp _ _ (FR.mk 26 [(14,.agg c.c),(9,.ptr nl3 0 0),(7,.ptr nl2 0 0),(6,.ptr nl1 0 0)] []) _ _
  refine iR ?_
  repeat' (first|(with_reducible first|(refine wT ?_;(first|((fail_if_success (have:=nl1));refine wN fun nl1 hnl=>?_)|((fail_if_success (have:=nl2));refine wN fun nl2 hnl=>?_)|((fail_if_success (have:=nl3));refine wN fun nl3 hnl=>?_)|((fail_if_success (have:=nl4));refine wN fun nl4 hnl=>?_)|((fail_if_success (have:=nl5));refine wN fun nl5 hnl=>?_)|((fail_if_success (have:=nl6));refine wN fun nl6 hnl=>?_)|refine wN fun _ hnl=>?_);revert hnl;(repeat refine wS fun _ _=>?_);intro hnl)|refine wE ?_|(refine wK ?_ ?_<;>intro h)|(refine wB ?_ ?_<;>intro h<;>simp only[h]))|simp(maxSteps:=4000000) (disch:=first|exact ddL|fail) only[go_sem,simprocAttr,FXs])
  refine fD (iR ?_)
  by_cases hcc:cur<c.id
  ·repeat' (first|(with_reducible first|(refine wT ?_;(first|((fail_if_success (have:=nl1));refine wN fun nl1 hnl=>?_)|((fail_if_success (have:=nl2));refine wN fun nl2 hnl=>?_)|((fail_if_success (have:=nl3));refine wN fun nl3 hnl=>?_)|((fail_if_success (have:=nl4));refine wN fun nl4 hnl=>?_)|((fail_if_success (have:=nl5));refine wN fun nl5 hnl=>?_)|((fail_if_success (have:=nl6));refine wN fun nl6 hnl=>?_)|refine wN fun _ hnl=>?_);revert hnl;(repeat refine wS fun _ _=>?_);intro hnl)|refine wE ?_|(refine wK ?_ ?_<;>intro h)|(refine wB ?_ ?_<;>intro h<;>simp only[h]))|simp(maxSteps:=4000000) (disch:=first|exact ddL|fail) only[go_sem,simprocAttr,FXs])
   refine .of (bD.less (l1:=[]) (fun p hp=>by cases hp) (σ1:=idS nl1 nl2 nl3 z mk cur j RR xx) (sV (by simp only[aX];exact⟨by assumption,by assumption,by assumption,by assumption,rfl⟩))) ?_
   rintro τ hτ hout
   rw[hre (.inr ⟨c,hc,hcc⟩)]
   have o1:=hout nl3 _ ((aG _ _ _ _ (Ne.symm z3)).trans (aF _ _ _))
   have o2:=hout z _ (aF _ _ _)
   have hle:(((bfS m l q b B f fl d').set nl3 (.row 22 1 [[.vec 27 z 0 j]])).set z (.row 42 27 (RR++xx))).le ((alI m l q b B [] fl f pb pf d).gF τ (idS nl1 nl2 nl3 z mk cur j (RR) xx)) :=
    St.aD (St.aD (H4 d DI hτ) (qA ((aG _ _ _ _ (Ne.symm z3)).trans (aF _ _ _)) o1)) (qA (aF _ _ _) o2)
   refine .of (bD.less (l1:=[(9,.ptr nl3 0 0)]) ?_ hle) ?_
   ·simp(maxSteps:=4000000) (disch:=first|exact ddL|fail) only[go_sem,simprocAttr,aC,aB]
    all_goals first|rfl|(simp;done)
   have o3:=o2
   simp only[aX] at o3
   obtain⟨w1,w2,w3,w4,w5,w6,w7,-⟩:=o3
   have n1:bfS m l q b B f fl d' nl3=none:=by simp only[aX];exact⟨g3,by assumption,by assumption,by assumption,by assumption,rfl⟩
   have n2:bfS m l q b B f fl d' z=none:=by simp only[aX];exact⟨w3,w4,w5,w6,w7,rfl⟩
   show R _
   clear hseq hal hres hout hle aI
   repeat' (first|(with_reducible first|(refine wT ?_;(first|((fail_if_success (have:=nl1));refine wN fun nl1 hnl=>?_)|((fail_if_success (have:=nl2));refine wN fun nl2 hnl=>?_)|((fail_if_success (have:=nl3));refine wN fun nl3 hnl=>?_)|((fail_if_success (have:=nl4));refine wN fun nl4 hnl=>?_)|((fail_if_success (have:=nl5));refine wN fun nl5 hnl=>?_)|((fail_if_success (have:=nl6));refine wN fun nl6 hnl=>?_)|refine wN fun _ hnl=>?_);revert hnl;(repeat refine wS fun _ _=>?_);intro hnl)|refine wE ?_|(refine wK ?_ ?_<;>intro h)|(refine wB ?_ ?_<;>intro h<;>simp only[h]))|simp(maxSteps:=4000000) (disch:=first|exact ddL|fail) only[go_sem,simprocAttr])
   exact B9 rfl (aF _ _ _) (fun k o hk=>(aG _ _ _ _ (fun e=>by subst e;rw[n2] at hk;cases hk)).trans ((aG _ _ _ _ (fun e=>by subst e;rw[n1] at hk;cases hk)).trans hk)) n2 (hRl.symm)
  ·repeat' (first|((with_reducible refine aZ mixed ?chk C ?_);(case chk=>decide +kernel))|(with_reducible refine aW (k1 _) hpj ?_)|(with_reducible first|(refine wT ?_;(first|((fail_if_success (have:=nl1));refine wN fun nl1 hnl=>?_)|((fail_if_success (have:=nl2));refine wN fun nl2 hnl=>?_)|((fail_if_success (have:=nl3));refine wN fun nl3 hnl=>?_)|((fail_if_success (have:=nl4));refine wN fun nl4 hnl=>?_)|((fail_if_success (have:=nl5));refine wN fun nl5 hnl=>?_)|((fail_if_success (have:=nl6));refine wN fun nl6 hnl=>?_)|refine wN fun _ hnl=>?_);revert hnl;(repeat refine wS fun _ _=>?_);intro hnl)|refine wE ?_|(refine wK ?_ ?_<;>intro h)|(refine wB ?_ ?_<;>intro h<;>simp only[h]))|simp(maxSteps:=4000000) (disch:=first|exact ddL|fail) only[go_sem,simprocAttr,FXs,htk',hdr,hRl])
   all_goals (try (exfalso;omega))
   all_goals
    have p1:nl6≠nl1:=by assumption
    have p2:nl6≠nl2:=by assumption
    have p3:nl6≠nl3:=by assumption
    have p4:nl6≠nl4:=by assumption
    have p5:nl6≠nl5:=by assumption
    have hcu':∀c,c∈X.take (j+1)→c.id≤cur:=fun y hy=>by
     rw[htk,List.mem_append,List.mem_singleton] at hy
     rcases hy with hy|rfl
     ·exact hcu y hy
     ·omega
    clear hres hseq hre hcu hal ha hdr htk' hpj hX
   ·have hex:xx=[]:=List.eq_nil_of_length_eq_zero (by omega)
    subst hex
    clear h
    refine .of (bD.less (l1:=[]) (fun p hp=>by cases hp) (σ1:=idS nl1 nl2 nl3 nl6 mk cur (j+1) (RR++[pc.c]) []) ?_) ⟨(nl6,[]),by rw[hsn],p1,p2,p3,hcu'⟩
    clear hcu' k1 aI
    exact St.aD (St.aD (St.aD (St.aD (St.none_le _) (by simp[St.set, *])) (by simp[St.set, *])) (by simp[St.set, *])) (by simp[St.set, *])
   ·refine .of (bD.less (l1:=[]) (fun p hp=>by cases hp) (σ1:=idS nl1 nl2 nl3 nl6 mk cur (j+1) (RR++[pc.c]) (xx.drop 1)) ?_) ⟨(nl6,xx.drop 1),by rw[hsn],p1,p2,p3,hcu'⟩
    clear hcu' h k1 aI
    exact St.aD (St.aD (St.aD (St.aD (St.none_le _) (by simp[St.set, *])) (by simp[St.set, *])) (by simp[St.set, *])) (by simp[St.set, *])
 ·rintro⟨z,xx⟩ ⟨z1,z2,z3,hcu⟩
  rw[hxl] at hcu ⊢
  have hre:=hres (Nat.le_refl _) hcu (.inl rfl)
  simp only at z1 z2 z3 ⊢
  rintro τ hτ hout
  rw[hre]
  have o1:=hout nl3 _ ((aG _ _ _ _ (Ne.symm z3)).trans (aF _ _ _))
  have o2:=hout z _ (aF _ _ _)
  have hle:(((bfS m l q b B f fl d').set nl3 (.row 22 1 [[.vec 27 z 0 X.length]])).set z (.row 42 27 ((((X.take X.length).map fun c=>gM c mk).map CA.c)++xx))).le ((alI m l q b B [] fl f pb pf d).gF τ (idS nl1 nl2 nl3 z mk cur X.length ((((X.take X.length).map fun c=>gM c mk).map CA.c)) xx)) :=
   St.aD (St.aD (H4 d DI hτ) (qA ((aG _ _ _ _ (Ne.symm z3)).trans (aF _ _ _)) o1)) (qA (aF _ _ _) o2)
  refine .of (bD.less (l1:=[(9,.ptr nl3 0 0)]) ?_ hle) ?_
  ·simp(maxSteps:=4000000) (disch:=first|exact ddL|fail) only[go_sem,simprocAttr,aC,aB]
   all_goals first|rfl|(simp;done)
  have o3:=o2
  simp only[aX] at o3
  obtain⟨w1,w2,w3,w4,w5,w6,w7,-⟩:=o3
  have n1:bfS m l q b B f fl d' nl3=none:=by simp only[aX];exact⟨g3,by assumption,by assumption,by assumption,by assumption,rfl⟩
  have n2:bfS m l q b B f fl d' z=none:=by simp only[aX];exact⟨w3,w4,w5,w6,w7,rfl⟩
  show R _
  clear hseq hal hres hout hle aI
  repeat' (first|(with_reducible first|(refine wT ?_;(first|((fail_if_success (have:=nl1));refine wN fun nl1 hnl=>?_)|((fail_if_success (have:=nl2));refine wN fun nl2 hnl=>?_)|((fail_if_success (have:=nl3));refine wN fun nl3 hnl=>?_)|((fail_if_success (have:=nl4));refine wN fun nl4 hnl=>?_)|((fail_if_success (have:=nl5));refine wN fun nl5 hnl=>?_)|((fail_if_success (have:=nl6));refine wN fun nl6 hnl=>?_)|refine wN fun _ hnl=>?_);revert hnl;(repeat refine wS fun _ _=>?_);intro hnl)|refine wE ?_|(refine wK ?_ ?_<;>intro h)|(refine wB ?_ ?_<;>intro h<;>simp only[h]))|simp(maxSteps:=4000000) (disch:=first|exact ddL|fail) only[go_sem,simprocAttr])
  exact B9 rfl (aF _ _ _) (fun k o hk=>(aG _ _ _ _ (fun e=>by subst e;rw[n2] at hk;cases hk)).trans ((aG _ _ _ _ (fun e=>by subst e;rw[n1] at hk;cases hk)).trans hk)) n2 (by rw[List.length_map,List.length_map,List.take_length])
end

section
set_option maxRecDepth 100000
set_option maxHeartbeats 8000000
structure OG (m l q b pb pf:Nat):Prop where
 h2:pb≠m∧pb≠l∧pb≠q∧pb≠b
 h3:pf≠m∧pf≠l∧pf≠q∧pf≠b∧pf≠pb
end

section
set_option maxRecDepth 100000
set_option maxHeartbeats 8000000
structure SET where
 bk:BK
 fl:List ND
 mask:UInt32
 cur:Int
abbrev SET.c(s:SET):List MV:=s.bk.c++[.lst 5 (s.fl.map ND.c) false,.int .u32 (s.mask.toNat:Int),.int .i64 s.cur]
structure Fit (s:SET):Prop where
 ok:j6 s.bk=true
 nc:s.bk.cards.length≤60
 nd:s.bk.dead.length≤60
 ng:s.bk.gr.length≤1000000
 nm:∀g,g∈s.bk.gr→g.mem.length≤1000000
 fl:bI s.fl=0
 mok:s.mask.toNat≤511
theorem FQ(s:SET):aA Tryz.prog 9 [.agg s.c] St.none (fun r _=>∃b,r=.bool b∧(b=true→Fit s)):=by
 refine(aA.body 23 [.tmp 2] Tryz.func9 rfl rfl rfl rfl ?_)
 have hg:=Kl s.bk
 have hp:=pH s.fl false
 have hm:=z6 s.mask
 obtain⟨kb,hk⟩:∃kb,j6 s.bk=kb:=⟨_,rfl⟩
 obtain⟨pe,hpe⟩:∃pe,bI s.fl=pe:=⟨_,rfl⟩
 rw[hpe] at hp
 obtain⟨mb,hmb⟩:∃mb,decide (s.mask.toNat≤511)=mb:=⟨_,rfl⟩
 rw[hmb] at hm
 cases kb
 ·repeat' (first|((refine cQ hg ?_;rintro _ ⟨gb,rfl,hgb⟩;cases gb))|(refine aK (hk ▸ iA s.bk (by have:=(hgb rfl).1;omega) (by have:=(hgb rfl).2.1;omega) (hgb rfl).2.2.1 (hgb rfl).2.2.2) ?_)|(refine aK hp ?_)|(refine aK hm ?_)|(with_reducible first|(refine wN fun _ hnl=>?_;revert hnl;(repeat refine wS fun _ _=>?_);intro hnl)|refine wE ?_|(refine wK ?_ ?_<;>intro h)|(refine wB ?_ ?_<;>intro h<;>simp only[h]))|simp(maxSteps:=4000000) (disch:=first|exact ddL|fail) only[go_sem,simprocAttr,List.map_cons,List.map_nil])
  all_goals exact⟨_,rfl,fun h=>by cases h⟩
 ·by_cases h0:pe=0
  ·cases mb
   ·repeat' (first|((refine cQ hg ?_;rintro _ ⟨gb,rfl,hgb⟩;cases gb))|(refine aK (hk ▸ iA s.bk (by have:=(hgb rfl).1;omega) (by have:=(hgb rfl).2.1;omega) (hgb rfl).2.2.1 (hgb rfl).2.2.2) ?_)|(refine aK hp ?_)|(refine aK hm ?_)|(with_reducible first|(refine wN fun _ hnl=>?_;revert hnl;(repeat refine wS fun _ _=>?_);intro hnl)|refine wE ?_|(refine wK ?_ ?_<;>intro h)|(refine wB ?_ ?_<;>intro h<;>simp only[h]))|simp(maxSteps:=4000000) (disch:=first|exact ddL|fail) only[go_sem,simprocAttr,h0,List.map_cons,List.map_nil])
    all_goals exact⟨_,rfl,fun h=>by cases h⟩
   ·subst h0
    repeat' (first|((refine cQ hg ?_;rintro _ ⟨gb,rfl,hgb⟩;cases gb))|(refine aK (hk ▸ iA s.bk (by have:=(hgb rfl).1;omega) (by have:=(hgb rfl).2.1;omega) (hgb rfl).2.2.1 (hgb rfl).2.2.2) ?_)|(refine aK hp ?_)|(refine aK hm ?_)|(with_reducible first|(refine wN fun _ hnl=>?_;revert hnl;(repeat refine wS fun _ _=>?_);intro hnl)|refine wE ?_|(refine wK ?_ ?_<;>intro h)|(refine wB ?_ ?_<;>intro h<;>simp only[h]))|simp(maxSteps:=4000000) (disch:=first|exact ddL|fail) only[go_sem,simprocAttr,List.map_cons,List.map_nil])
    all_goals first|exact⟨_,rfl,fun _=>⟨hk,(hgb rfl).1,(hgb rfl).2.1,(hgb rfl).2.2.1,(hgb rfl).2.2.2,hpe,of_decide_eq_true hmb⟩⟩|exact⟨_,rfl,fun h=>by cases h⟩
  ·repeat' (first|((refine cQ hg ?_;rintro _ ⟨gb,rfl,hgb⟩;cases gb))|(refine aK (hk ▸ iA s.bk (by have:=(hgb rfl).1;omega) (by have:=(hgb rfl).2.1;omega) (hgb rfl).2.2.1 (hgb rfl).2.2.2) ?_)|(refine aK hp ?_)|(refine aK hm ?_)|(with_reducible first|(refine wN fun _ hnl=>?_;revert hnl;(repeat refine wS fun _ _=>?_);intro hnl)|refine wE ?_|(refine wK ?_ ?_<;>intro h)|(refine wB ?_ ?_<;>intro h<;>simp only[h]))|simp(maxSteps:=4000000) (disch:=first|exact ddL|fail) only[go_sem,simprocAttr,h0,List.map_cons,List.map_nil])
   all_goals exact⟨_,rfl,fun h=>by cases h⟩
end
end Go.Proofs.YtaojijkdamfbnaaGreatDoor
