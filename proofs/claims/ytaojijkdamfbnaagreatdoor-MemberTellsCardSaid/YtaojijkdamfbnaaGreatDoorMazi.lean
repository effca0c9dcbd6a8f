/- Parts of the proof, joined; conditions: those that its theorems name. -/
import Derived.Test.YtaojijkdamfbnaaGreatDoorMazg
import Derived.Test.YtaojijkdamfbnaaGreatDoorMazh
set_option linter.unusedVariables false
set_option linter.unusedSimpArgs false
set_option maxHeartbeats 4000000
namespace Go.Proofs.YtaojijkdamfbnaaGreatDoor
section
set_option maxRecDepth 100000
set_option maxHeartbeats 8000000
theorem aA.MM{P:Program}{g:FuncId}{ms:List MV}{σ:St}{X:MV}{Q:St→Prop}(h:aA P g ms σ fun v σ'=>∃τ σv:St,Q τ∧σv.le σ'∧τ.le σ'∧(∀k o,τ k=some o→σv k=none)∧View σv v X):aA P g ms σ fun v σ'=>v=X∧Q σ' :=
 aA.ghost (h.mono fun v σ' ⟨τ,σv,h0,h1,h2,h3,h4⟩=>⟨X,τ,bD.freeze σv h1 h2 h3 (fun p hp=>by
  simp at hp
  subst hp
  simpa[cC] using h4),rfl,h0⟩)
noncomputable abbrev bfS(m l q b:Nat)(B:BK)(f:Nat)(fl:List ND)(d:Bool):St:=(bkS m l q b B []).set f (flD fl d)
theorem Ix{m l q b f pb pf:Nat}{B:BK}{fl:List ND}(d0:Bool){d:Bool}{τ S:St}(DI:FV m l q b f pb pf)(hτ:(alI m l q b B [] fl f pb pf d).le τ):(bfS m l q b B f fl d).le ((alI m l q b B [] fl f pb pf d0).fA τ S):=by
 obtain⟨⟨f1,f2,f3,f4⟩,⟨p1,p2,p3,p4,p5⟩,⟨r1,r2,r3,r4,r5,r6⟩⟩:=DI
 intro k o hk
 have hd:k=f∨k=b∨k=q∨k=l∨k=m:=by
  rcases cO hk with⟨e,_⟩|⟨_,h⟩
  ·exact .inl e
  rcases cO h with⟨e,_⟩|⟨_,h⟩
  ·exact .inr (.inl e)
  rcases cO h with⟨e,_⟩|⟨_,h⟩
  ·exact .inr (.inr (.inl e))
  rcases cO h with⟨e,_⟩|⟨_,h⟩
  ·exact .inr (.inr (.inr (.inl e)))
  rcases cO h with⟨e,_⟩|⟨_,h⟩
  ·exact .inr (.inr (.inr (.inr e)))
  ·cases h
 have k1:k≠pb:=fun e=>by
  subst e
  rcases hd with e|e|e|e|e
  ·exact p5 e
  ·exact p4 e
  ·exact p3 e
  ·exact p2 e
  ·exact p1 e
 have k2:k≠pf:=fun e=>by
  subst e
  rcases hd with e|e|e|e|e
  ·exact r5 e
  ·exact r4 e
  ·exact r3 e
  ·exact r2 e
  ·exact r1 e
 have h1:alI m l q b B [] fl f pb pf d k=some o:=(aH _ _ _ _ k2).trans ((aH _ _ _ _ k1).trans hk)
 have h2:alI m l q b B [] fl f pb pf d0 k≠none:=by
  have:bfS m l q b B f fl d k≠none:=by rw[hk];exact fun e=>by cases e
  simp only[j4] at this ⊢
  exact .inr (.inr this)
 unfold St.fA
 rw[if_pos (Option.isSome_iff_ne_none.2 h2)]
 exact hτ k o h1
theorem oN{σi τ σ:St}{k:Nat}{o:aY}(hk:σ k=some o)(h:σi k=none):σi.fA τ σ k=some o:=by
 unfold St.fA
 rw[h]
 exact hk
abbrev inS(n1 q j:Nat)(R ex:List (List MV)):St:=(St.none.set n1 (.row 46 1 [[.vec 1 q 0 j]])).set q (.row 3 1 (R++ex))
abbrev idX(c:CA):List MV:=[.int .i64 c.id]
theorem uQ{B:BK}(hb:BkR B)(h3:B.gr.length≤1000000)(h4:∀g,g∈B.gr→g.mem.length≤1000000){m l q b f:Nat}(D:iT m l q b)(hf:f≠m∧f≠l∧f≠q∧f≠b){fl:List ND}(hp:b9 fl=0)(d:Bool) :
  aA Tryz.prog 15 [.ptr b 0 0,.ptr f 0 0] (bfS m l q b B f fl d) (fun r σ'=>r=.lst 1 ((shC B fl).map idX) false∧σ'=bfS m l q b B f fl (d || decide (0<B.cards.length))):=by
 obtain⟨d',hd'⟩:∃d',(d || decide (0<B.cards.length))=d':=⟨_,rfl⟩
 rw[hd']
 refine aA.MM (Q:=fun σ'=>σ'=bfS m l q b B f fl d') (aA.body 17 [.tmp 4] Tryz.func15 rfl rfl rfl rfl ?_)
 obtain⟨f1,f2,f3,f4⟩:=hf
 have hal:=yH b f
 have hseq:=fun {pb pf:Nat} (DI:FV m l q b f pb pf)=>yI hb h3 h4 D DI [] hp d
 obtain⟨X,hX⟩:∃X,shC B fl=X:=⟨_,rfl⟩
 have hXl:X.length≤1000000:=by rw[←hX];exact(pZ hb fl).2.2
 simp only[hX,hd'] at hseq ⊢
 repeat' (first|(refine kZ hal ?_;(intro pb pf hpb hpf hne;have hpb1:=hpb;have hpf1:=hpf;simp only[aQ] at hpb1 hpf1))|(with_reducible first|(refine wT ?_;(first|((fail_if_success (have:=nl1));refine wN fun nl1 hnl=>?_)|((fail_if_success (have:=nl2));refine wN fun nl2 hnl=>?_)|((fail_if_success (have:=nl3));refine wN fun nl3 hnl=>?_)|((fail_if_success (have:=nl4));refine wN fun nl4 hnl=>?_)|refine wN fun _ hnl=>?_);revert hnl;(repeat refine wS fun _ _=>?_);intro hnl)|refine wE ?_|(refine wK ?_ ?_<;>intro h)|(refine wB ?_ ?_<;>intro h<;>simp only[h]))|simp(maxSteps:=4000000) (disch:=first|exact ddL|fail) only[go_sem,simprocAttr,Tryz.f15])
 obtain⟨b1,b4,b5,b6,b7,b8,-⟩:=hpb1
 obtain⟨c1,c4,c5,c6,c7,c8,-⟩:=hpf1
 have g1:nl1≠f:=by assumption
 have ha:∀{k:Nat},k≠m→k≠l→k≠q→k≠b→bkS m l q b B [] k=none:=fun h1 h2 h3 h4=>by simp only[aQ];exact⟨h4,h3,h2,h1,rfl⟩
 have m1:bkS m l q b B [] nl1=none:=ha (by assumption) (by assumption) (by assumption) (by assumption)
 have hxl:(cdX X).length=X.length:=List.length_map _
 have aI:∀k,alI m l q b B [] fl f pb pf d k=(if k=pf then some (.row 36 1 [[.ptr f 0 0]]) else if k=pb then some (.row 33 1 [[.ptr b 0 0]]) else if k=f then some (flD fl d) else bkS m l q b B [] k):=fun k=>rfl
 have DI:FV m l q b f pb pf:=⟨⟨f1,f2,f3,f4⟩,⟨b8,b7,b6,b5,b4⟩,⟨c8,c7,c6,c5,c4,hne⟩⟩
 refine dH (jY (gf:=95) (xs:=cdX X) rfl (σi:=alI m l q b B [] fl f pb pf d) (fun j o hj=>?_) (K:=fun τ=>(alI m l q b B [] fl f pb pf d').le τ) (fun τ hτ=>?_) (hseq DI) ?_ rfl rfl
  (fc:=⟨17,[(5,.ptr nl1 0 0)],[]⟩) rfl (α:=Nat × List (List MV))
  (fun j a=>inS nl1 a.1 j ((X.take j).map idX) a.2) (fun j a=>a.1≠nl1) ?_ ?_ ?_)
 ·rw[aI] at hj
  by_cases j1:j=pf
  ·subst j1;rw[if_pos rfl] at hj;rw[aK];exact hj
  ·rw[if_neg j1] at hj
   rw[aH _ _ _ _ j1]
   by_cases j2:j=pb
   ·subst j2;rw[if_pos rfl] at hj;rw[aK];exact hj
   ·rw[if_neg j2] at hj
    rw[aH _ _ _ _ j2]
    by_cases j3:j=f
    ·subst j3
     rw[if_pos rfl] at hj
     exact(aH _ _ _ _ (Ne.symm g1)).trans ((aK _ _ _).trans hj)
    ·rw[if_neg j3] at hj
     exact(aH _ _ _ _ (fun e=>by subst e;rw[m1] at hj;cases hj)).trans ((aH _ _ _ _ j3).trans hj)
 ·exact I2 d' d (fun x hx=>by cases hx) hτ
 ·intro x hx
  obtain⟨y,_,rfl⟩:=List.mem_map.1 hx
  rfl
 ·have aN:∀{k:Nat},k≠pf→k≠pb→k≠f→bkS m l q b B [] k=none→alI m l q b B [] fl f pb pf d k=none:=fun h1 h2 h3 h4=>by rw[aI,if_neg h1,if_neg h2,if_neg h3];exact h4
  have s1:=aN (Ne.symm c1) (Ne.symm b1) g1 m1
  have t1:(((((bkS m l q b B []).set f (flD fl d)).set nl1 (.row 46 1 [[.a8]])).set pb (.row 33 1 [[.ptr b 0 0]])).set pf (.row 36 1 [[.ptr f 0 0]])) nl1=some (.row 46 1 [[.a8]]):=by
   rw[aH _ _ _ _ (Ne.symm c1),aH _ _ _ _ (Ne.symm b1),aK]
  have k1:((((((bkS m l q b B []).set f (flD fl d)).set nl1 (.row 46 1 [[.a8]])).set pb (.row 33 1 [[.ptr b 0 0]])).set pf (.row 36 1 [[.ptr f 0 0]])).minus (alI m l q b B [] fl f pb pf d)) nl1=some (.row 46 1 [[.a8]]):=by
   unfold St.minus
   rw[s1]
   exact t1
  refine Gh.r0 (b:=nl1) (t:=46) (e:=1) (pre:=[]) (post:=[]) 3 1 k1 fun z hz=>?_
  have z1:z≠nl1:=fun e=>by subst e;rw[k1] at hz;cases hz
  refine .of (.less (l1:=[(5,.ptr nl1 0 0)]) ?_ (σ1:=inS nl1 z 0 [] []) ?_) ⟨rfl,(z,[]),rfl,z1⟩
  ·simp(maxSteps:=4000000) (disch:=first|exact ddL|fail) only[go_sem,simprocAttr,aC,aB]
   all_goals first|rfl|(simp;done)
  ·refine St.hZ (St.hZ (St.none_le _))
 ·rintro j x ⟨z,xx⟩ hx z1
  simp only at z1 ⊢
  have hjl:j<X.length:=by
   have:=(List.getElem?_eq_some_iff.1 hx).1
   rwa [hxl] at this
  obtain⟨c,hc⟩:=bO X hjl
  have hxe:x=[.agg c.c]:=by
   rw[List.getElem?_map,hc] at hx
   exact(Option.some.inj hx).symm
  subst hxe
  have z1':=Ne.symm z1
  have htk:=bB hc
  have hRl:((X.take j).map idX).length=j:=by rw[List.length_map,List.length_take];omega
  have hsn:(X.take (j+1)).map idX=(X.take j).map idX++[idX c]:=by rw[htk,List.map_append];rfl
  obtain⟨RR,hRR⟩:∃RR,(X.take j).map idX=RR:=⟨_,rfl⟩
  rw[hRR] at hRl hsn ⊢
  have hdr:(RR++xx).drop (j+1)=xx.drop 1:=by rw[←hRl,←List.drop_drop,List.drop_left'];rfl
  have htk':(RR++xx).take j=RR:=by rw[←hRl,List.take_left'];rfl
  change mwp _ _ (FR.mk 17 [(10,.agg c.c),(5,.ptr nl1 0 0)] []) _ _
  refine i6 ?_
  repeat' (first|(with_reducible first|(refine wT ?_;(first|((fail_if_success (have:=nl1));refine wN fun nl1 hnl=>?_)|((fail_if_success (have:=nl2));refine wN fun nl2 hnl=>?_)|((fail_if_success (have:=nl3));refine wN fun nl3 hnl=>?_)|((fail_if_success (have:=nl4));refine wN fun nl4 hnl=>?_)|refine wN fun _ hnl=>?_);revert hnl;(repeat refine wS fun _ _=>?_);intro hnl)|refine wE ?_|(refine wK ?_ ?_<;>intro h)|(refine wB ?_ ?_<;>intro h<;>simp only[h]))|simp(maxSteps:=4000000) (disch:=first|exact ddL|fail) only[go_sem,simprocAttr,FXs])
  refine dH (i6 ?_)
  repeat' (first|(with_reducible first|(refine wT ?_;(first|((fail_if_success (have:=nl1));refine wN fun nl1 hnl=>?_)|((fail_if_success (have:=nl2));refine wN fun nl2 hnl=>?_)|((fail_if_success (have:=nl3));refine wN fun nl3 hnl=>?_)|((fail_if_success (have:=nl4));refine wN fun nl4 hnl=>?_)|refine wN fun _ hnl=>?_);revert hnl;(repeat refine wS fun _ _=>?_);intro hnl)|refine wE ?_|(refine wK ?_ ?_<;>intro h)|(refine wB ?_ ?_<;>intro h<;>simp only[h]))|simp(maxSteps:=4000000) (disch:=first|exact ddL|fail) only[go_sem,simprocAttr,FXs,htk',hdr,hRl])
  all_goals (try (exfalso;omega))
  all_goals
   have p1:nl4≠nl1:=by assumption
   have p2:nl4≠nl2:=by assumption
   have p3:nl4≠nl3:=by assumption
   clear hseq hal ha hdr htk' hX
  ·have hex:xx=[]:=List.eq_nil_of_length_eq_zero (by omega)
   subst hex
   clear h
   refine .of (bD.less (l1:=[]) (fun p hp=>by cases hp) (σ1:=inS nl1 nl4 (j+1) (RR++[idX c]) []) ?_) ⟨(nl4,[]),by rw[hsn],p1⟩
   clear aI
   exact St.aG (St.aG (St.none_le _) (by simp[St.set, *])) (by simp[St.set, *])
  ·refine .of (bD.less (l1:=[]) (fun p hp=>by cases hp) (σ1:=inS nl1 nl4 (j+1) (RR++[idX c]) (xx.drop 1)) ?_) ⟨(nl4,xx.drop 1),by rw[hsn],p1⟩
   clear h aI
   exact St.aG (St.aG (St.none_le _) (by simp[St.set, *])) (by simp[St.set, *])
 ·rintro⟨z,xx⟩ z1 τ hτ hout
  simp only[hxl,List.take_length] at z1 hout ⊢
  have o1:=hout nl1 _ ((aH _ _ _ _ (Ne.symm z1)).trans (aK _ _ _))
  have o2:=hout z _ (aK _ _ _)
  have hle:(((bfS m l q b B f fl d').set nl1 (.row 46 1 [[.vec 1 z 0 X.length]])).set z (.row 3 1 (X.map idX++xx))).le ((alI m l q b B [] fl f pb pf d).fA τ (inS nl1 z X.length (X.map idX) xx)) :=
   St.aG (St.aG (Ix d DI hτ) (oN ((aH _ _ _ _ (Ne.symm z1)).trans (aK _ _ _)) o1)) (oN (aK _ _ _) o2)
  refine .of (bD.less (l1:=[(5,.ptr nl1 0 0)]) ?_ hle) ?_
  ·simp(maxSteps:=4000000) (disch:=first|exact ddL|fail) only[go_sem,simprocAttr,aC,aB]
   all_goals first|rfl|(simp;done)
  have o3:=o2
  simp only[aQ] at o3
  obtain⟨w1,w2,w3,w4,w5,w6,w7,-⟩:=o3
  have n1:bfS m l q b B f fl d' nl1=none:=by simp only[aQ];exact⟨g1,by assumption,by assumption,by assumption,by assumption,rfl⟩
  have n2:bfS m l q b B f fl d' z=none:=by simp only[aQ];exact⟨w3,w4,w5,w6,w7,rfl⟩
  show R _
  repeat' (first|(with_reducible first|(refine wT ?_;(first|((fail_if_success (have:=nl1));refine wN fun nl1 hnl=>?_)|((fail_if_success (have:=nl2));refine wN fun nl2 hnl=>?_)|((fail_if_success (have:=nl3));refine wN fun nl3 hnl=>?_)|((fail_if_success (have:=nl4));refine wN fun nl4 hnl=>?_)|refine wN fun _ hnl=>?_);revert hnl;(repeat refine wS fun _ _=>?_);intro hnl)|refine wE ?_|(refine wK ?_ ?_<;>intro h)|(refine wB ?_ ?_<;>intro h<;>simp only[h]))|simp(maxSteps:=4000000) (disch:=first|exact ddL|fail) only[go_sem,simprocAttr])
  refine⟨bfS m l q b B f fl d',St.none.set z (.row 3 1 (X.map idX++xx)),rfl,St.aG (St.none_le _) (aK _ _ _),fun k o hk=>?_,fun k o hk=>?_,dB (aK _ _ _) (by rw[List.length_map])⟩
  ·rw[aH _ _ _ _ (fun e=>by subst e;rw[n2] at hk;cases hk),aH _ _ _ _ (fun e=>by subst e;rw[n1] at hk;cases hk)]
   exact hk
  ·rw[aH _ _ _ _ (fun e=>by subst e;rw[n2] at hk;cases hk)]
   rfl
end

section
set_option maxRecDepth 100000
set_option maxHeartbeats 8000000
theorem Cz{Q:St→Prop}{τ σ':St}{z e n:Nat}{t:TypeId}{xs ex:List (List MV)}(hQ:Q τ)(hz:σ' z=some (.row t e (xs++ex)))(hle:τ.le σ')(hn:τ z=none)(hl:n=xs.length) :
  ∃τ σv:St,Q τ∧σv.le σ'∧τ.le σ'∧(∀k o,τ k=some o→σv k=none)∧View σv (.vec e z 0 n) (.lst e xs false) :=
 ⟨τ,St.none.set z (.row t e (xs++ex)),hQ,St.aG (St.none_le _) hz,hle,fun k o hk=>(aH _ _ _ _ (fun h=>by subst h;rw[hn] at hk;cases hk)).trans rfl,dB (aK _ _ _) hl⟩
theorem Ap{B:BK}(hb:BkR B)(h3:B.gr.length≤1000000)(h4:∀g,g∈B.gr→g.mem.length≤1000000){m l q b f:Nat}(D:iT m l q b)(hf:f≠m∧f≠l∧f≠q∧f≠b){fl:List ND}(hp:b9 fl=0)(d:Bool)(mk:UInt32)(cur:Int) :
  aA Tryz.prog 16 [.ptr b 0 0,.ptr f 0 0,.int .u32 (mk.toNat:Int),.int .i64 cur] (bfS m l q b B f fl d) (fun r σ'=>r=.lst 27 ((fQ B fl mk cur).map CA.c) false∧σ'=bfS m l q b B f fl (d || decide (0<B.cards.length))):=by
 obtain⟨d',hd'⟩:∃d',(d || decide (0<B.cards.length))=d':=⟨_,rfl⟩
 rw[hd']
 refine aA.MM (Q:=fun σ'=>σ'=bfS m l q b B f fl d') (aA.body 26 [.tmp 8] Tryz.func16 rfl rfl rfl rfl ?_)
 obtain⟨f1,f2,f3,f4⟩:=hf
 have hal:=yH b f
 have hseq:=fun {pb pf:Nat} (DI:FV m l q b f pb pf)=>yI hb h3 h4 D DI [] hp d
 obtain⟨X,hX⟩:∃X,shC B fl=X:=⟨_,rfl⟩
 have hres:∀{j:Nat},j≤X.length→(∀c,c∈X.take j→c.id≤cur)→(j=X.length∨∃c,X[j]?=some c∧cur<c.id)→(fQ B fl mk cur).map CA.c=((X.take j).map fun c=>fY c mk).map CA.c:=by
  subst hX
  exact fun hj h1 h2=>congrArg _ (Dv hb hj h1 h2)
 have hXl:X.length≤1000000:=by rw[←hX];exact(pZ hb fl).2.2
 simp only[hX,hd'] at hseq
 repeat' (first|(refine kZ hal ?_;(intro pb pf hpb hpf hne;have hpb1:=hpb;have hpf1:=hpf;simp only[aQ] at hpb1 hpf1))|(with_reducible first|(refine wT ?_;(first|((fail_if_success (have:=nl1));refine wN fun nl1 hnl=>?_)|((fail_if_success (have:=nl2));refine wN fun nl2 hnl=>?_)|((fail_if_success (have:=nl3));refine wN fun nl3 hnl=>?_)|((fail_if_success (have:=nl4));refine wN fun nl4 hnl=>?_)|((fail_if_success (have:=nl5));refine wN fun nl5 hnl=>?_)|((fail_if_success (have:=nl6));refine wN fun nl6 hnl=>?_)|refine wN fun _ hnl=>?_);revert hnl;(repeat refine wS fun _ _=>?_);intro hnl)|refine wE ?_|(refine wK ?_ ?_<;>intro h)|(refine wB ?_ ?_<;>intro h<;>simp only[h]))|simp(maxSteps:=4000000) (disch:=first|exact ddL|fail) only[go_sem,simprocAttr,Tryz.f16])
 obtain⟨b1,b2,b3,b4,b5,b6,b7,b8,-⟩:=hpb1
 obtain⟨c1,c2,c3,c4,c5,c6,c7,c8,-⟩:=hpf1
 have n21:nl2≠nl1:=by assumption
 have n31:nl3≠nl1:=by assumption
 have n32:nl3≠nl2:=by assumption
 have n12:=Ne.symm n21
 have n13:=Ne.symm n31
 have n23:=Ne.symm n32
 have g1:nl1≠f:=by assumption
 have g2:nl2≠f:=by assumption
 have g3:nl3≠f:=by assumption
 have ha:∀{k:Nat},k≠m→k≠l→k≠q→k≠b→bkS m l q b B [] k=none:=fun h1 h2 h3 h4=>by simp only[aQ];exact⟨h4,h3,h2,h1,rfl⟩
 have m1:bkS m l q b B [] nl1=none:=ha (by assumption) (by assumption) (by assumption) (by assumption)
 have m2:bkS m l q b B [] nl2=none:=ha (by assumption) (by assumption) (by assumption) (by assumption)
 have m3:bkS m l q b B [] nl3=none:=ha (by assumption) (by assumption) (by assumption) (by assumption)
 have hxl:(cdX X).length=X.length:=List.length_map _
 have aI:∀k,alI m l q b B [] fl f pb pf d k=(if k=pf then some (.row 36 1 [[.ptr f 0 0]]) else if k=pb then some (.row 33 1 [[.ptr b 0 0]]) else if k=f then some (flD fl d) else bkS m l q b B [] k):=fun k=>rfl
 have DI:FV m l q b f pb pf:=⟨⟨f1,f2,f3,f4⟩,⟨b8,b7,b6,b5,b4⟩,⟨c8,c7,c6,c5,c4,hne⟩⟩
 refine dH (jY (gf:=95) (xs:=cdX X) rfl (σi:=alI m l q b B [] fl f pb pf d) (fun j o hj=>?_) (K:=fun τ=>(alI m l q b B [] fl f pb pf d').le τ) (fun τ hτ=>?_) (hseq DI) ?_ rfl rfl
  (fc:=⟨26,[(9,.ptr nl3 0 0),(7,.ptr nl2 0 0),(6,.ptr nl1 0 0)],[]⟩) rfl (α:=Nat × List (List MV))
  (fun j a=>idS nl1 nl2 nl3 a.1 mk cur j (((X.take j).map fun c=>fY c mk).map CA.c) a.2) (fun j a=>a.1≠nl1∧a.1≠nl2∧a.1≠nl3∧∀c,c∈X.take j→c.id≤cur) ?_ ?_ ?_)
 ·rw[aI] at hj
  by_cases j1:j=pf
  ·subst j1;rw[if_pos rfl] at hj;rw[aK];exact hj
  ·rw[if_neg j1] at hj
   rw[aH _ _ _ _ j1]
   by_cases j2:j=pb
   ·subst j2;rw[if_pos rfl] at hj;rw[aK];exact hj
   ·rw[if_neg j2] at hj
    rw[aH _ _ _ _ j2]
    by_cases j3:j=f
    ·subst j3
     rw[if_pos rfl] at hj
     exact(aH _ _ _ _ (Ne.symm g3)).trans ((aH _ _ _ _ (Ne.symm g2)).trans ((aH _ _ _ _ (Ne.symm g1)).trans ((aK _ _ _).trans hj)))
    ·rw[if_neg j3] at hj
     exact(aH _ _ _ _ (fun e=>by subst e;rw[m3] at hj;cases hj)).trans ((aH _ _ _ _ (fun e=>by subst e;rw[m2] at hj;cases hj)).trans ((aH _ _ _ _ (fun e=>by subst e;rw[m1] at hj;cases hj)).trans ((aH _ _ _ _ j3).trans hj)))
 ·exact I2 d' d (fun x hx=>by cases hx) hτ
 ·intro x hx
  obtain⟨y,_,rfl⟩:=List.mem_map.1 hx
  rfl
 ·have aN:∀{k:Nat},k≠pf→k≠pb→k≠f→bkS m l q b B [] k=none→alI m l q b B [] fl f pb pf d k=none:=fun h1 h2 h3 h4=>by rw[aI,if_neg h1,if_neg h2,if_neg h3];exact h4
  have s1:=aN (Ne.symm c3) (Ne.symm b3) g1 m1
  have s2:=aN (Ne.symm c2) (Ne.symm b2) g2 m2
  have s3:=aN (Ne.symm c1) (Ne.symm b1) g3 m3
  have t1:((((((bkS m l q b B []).set f (flD fl d)).set nl1 (.row 28 1 [[.int .u32 (mk.toNat:Int)]])).set nl2 (.row 3 1 [[.int .i64 cur]])).set nl3 (.row 22 1 [[.a8]])).set pb (.row 33 1 [[.ptr b 0 0]])).set pf (.row 36 1 [[.ptr f 0 0]]) nl3=some (.row 22 1 [[.a8]]):=by
   rw[aH _ _ _ _ (Ne.symm c1),aH _ _ _ _ (Ne.symm b1),aK]
  refine Gh.r0 (b:=nl3) (t:=22) (e:=1) (pre:=[]) (post:=[]) 42 27 ?_ fun z hz=>?_
  ·unfold St.minus
   rw[s3]
   exact t1
  ·have lk:∀{k:Nat} {o:aY},alI m l q b B [] fl f pb pf d k=none→((((((bkS m l q b B []).set f (flD fl d)).set nl1 (.row 28 1 [[.int .u32 (mk.toNat:Int)]])).set nl2 (.row 3 1 [[.int .i64 cur]])).set nl3 (.row 22 1 [[.a8]])).set pb (.row 33 1 [[.ptr b 0 0]])).set pf (.row 36 1 [[.ptr f 0 0]]) k=some o→((((((((bkS m l q b B []).set f (flD fl d)).set nl1 (.row 28 1 [[.int .u32 (mk.toNat:Int)]])).set nl2 (.row 3 1 [[.int .i64 cur]])).set nl3 (.row 22 1 [[.a8]])).set pb (.row 33 1 [[.ptr b 0 0]])).set pf (.row 36 1 [[.ptr f 0 0]])).minus (alI m l q b B [] fl f pb pf d)) k=some o:=fun h1 h2=>by
    unfold St.minus
    rw[h1]
    exact h2
   have k1:=lk (o:=.row 28 1 [[.int .u32 (mk.toNat:Int)]]) s1 (by rw[aH _ _ _ _ (Ne.symm c3),aH _ _ _ _ (Ne.symm b3),aH _ _ _ _ n13,aH _ _ _ _ n12,aK])
   have k2:=lk (o:=.row 3 1 [[.int .i64 cur]]) s2 (by rw[aH _ _ _ _ (Ne.symm c2),aH _ _ _ _ (Ne.symm b2),aH _ _ _ _ n23,aK])
   have k3:=lk s3 t1
   have z1:z≠nl1:=fun e=>by subst e;rw[k1] at hz;cases hz
   have z2:z≠nl2:=fun e=>by subst e;rw[k2] at hz;cases hz
   have z3:z≠nl3:=fun e=>by subst e;rw[k3] at hz;cases hz
   refine .of (.less (l1:=[(9,.ptr nl3 0 0),(7,.ptr nl2 0 0),(6,.ptr nl1 0 0)]) ?_ (σ1:=idS nl1 nl2 nl3 z mk cur 0 [] []) ?_) ⟨rfl,(z,[]),rfl,z1,z2,z3,by simp⟩
   ·simp(maxSteps:=4000000) (disch:=first|exact ddL|fail) only[go_sem,simprocAttr,aC,aB]
    all_goals first|rfl|(simp;done)
   ·refine St.hZ (St.hZ (St.aG (St.aG (St.none_le _) k1) k2))
 ·rintro j x ⟨z,xx⟩ hx ⟨z1,z2,z3,hcu⟩
  simp only at z1 z2 z3 hcu ⊢
  have hjl:j<X.length:=by
   have:=(List.getElem?_eq_some_iff.1 hx).1
   rwa [hxl] at this
  obtain⟨c,hc⟩:=bO X hjl
  have hxe:x=[.agg c.c]:=by
   rw[List.getElem?_map,hc] at hx
   exact(Option.some.inj hx).symm
  subst hxe
  have z1':=Ne.symm z1
  have z2':=Ne.symm z2
  have z3':=Ne.symm z3
  have htk:=bB hc
  have hpj:=Et c mk
  have hRl:(((X.take j).map fun c=>fY c mk).map CA.c).length=j:=by rw[List.length_map,List.length_map,List.length_take];omega
  have hsn:((X.take (j+1)).map fun c=>fY c mk).map CA.c=((X.take j).map fun c=>fY c mk).map CA.c++[(fY c mk).c]:=by rw[htk,List.map_append,List.map_append];rfl
  have hre:=hres (Nat.le_of_lt hjl) hcu
  obtain⟨RR,hRR⟩:∃RR,((X.take j).map fun c=>fY c mk).map CA.c=RR:=⟨_,rfl⟩
  rw[hRR] at hRl hsn hre ⊢
  have hdr:(RR++xx).drop (j+1)=xx.drop 1:=by rw[←hRl,←List.drop_drop,List.drop_left'];rfl
  have htk':(RR++xx).take j=RR:=by rw[←hRl,List.take_left'];rfl
  obtain⟨C,k1⟩:∃C:bT,∀ms,C 53 ms=some ⟨[],fun v=>v=.agg (fY c mk).c,none⟩:=⟨zG 53 (.agg (fY c mk).c),fun _=>jS⟩
  obtain⟨pc,hpc⟩:∃pc,fY c mk=pc:=⟨_,rfl⟩
  rw[hpc] at hpj hsn k1
  change mwp _ _ (FR.mk 26 [(14,.agg c.c),(9,.ptr nl3 0 0),(7,.ptr nl2 0 0),(6,.ptr nl1 0 0)] []) _ _
  refine i6 ?_
  repeat' (first|(with_reducible first|(refine wT ?_;(first|((fail_if_success (have:=nl1));refine wN fun nl1 hnl=>?_)|((fail_if_success (have:=nl2));refine wN fun nl2 hnl=>?_)|((fail_if_success (have:=nl3));refine wN fun nl3 hnl=>?_)|((fail_if_success (have:=nl4));refine wN fun nl4 hnl=>?_)|((fail_if_success (have:=nl5));refine wN fun nl5 hnl=>?_)|((fail_if_success (have:=nl6));refine wN fun nl6 hnl=>?_)|refine wN fun _ hnl=>?_);revert hnl;(repeat refine wS fun _ _=>?_);intro hnl)|refine wE ?_|(refine wK ?_ ?_<;>intro h)|(refine wB ?_ ?_<;>intro h<;>simp only[h]))|simp(maxSteps:=4000000) (disch:=first|exact ddL|fail) only[go_sem,simprocAttr,FXs])
  refine dH (i6 ?_)
  by_cases hcc:cur<c.id
  ·repeat' (first|(with_reducible first|(refine wT ?_;(first|((fail_if_success (have:=nl1));refine wN fun nl1 hnl=>?_)|((fail_if_success (have:=nl2));refine wN fun nl2 hnl=>?_)|((fail_if_success (have:=nl3));refine wN fun nl3 hnl=>?_)|((fail_if_success (have:=nl4));refine wN fun nl4 hnl=>?_)|((fail_if_success (have:=nl5));refine wN fun nl5 hnl=>?_)|((fail_if_success (have:=nl6));refine wN fun nl6 hnl=>?_)|refine wN fun _ hnl=>?_);revert hnl;(repeat refine wS fun _ _=>?_);intro hnl)|refine wE ?_|(refine wK ?_ ?_<;>intro h)|(refine wB ?_ ?_<;>intro h<;>simp only[h]))|simp(maxSteps:=4000000) (disch:=first|exact ddL|fail) only[go_sem,simprocAttr,FXs])
   refine .of (bD.less (l1:=[]) (fun p hp=>by cases hp) (σ1:=idS nl1 nl2 nl3 z mk cur j RR xx) (cQ (by simp only[aQ];exact⟨by assumption,by assumption,by assumption,by assumption,rfl⟩))) ?_
   rintro τ hτ hout
   rw[hre (.inr ⟨c,hc,hcc⟩)]
   have o1:=hout nl3 _ ((aH _ _ _ _ (Ne.symm z3)).trans (aK _ _ _))
   have o2:=hout z _ (aK _ _ _)
   have hle:(((bfS m l q b B f fl d').set nl3 (.row 22 1 [[.vec 27 z 0 j]])).set z (.row 42 27 (RR++xx))).le ((alI m l q b B [] fl f pb pf d).fA τ (idS nl1 nl2 nl3 z mk cur j (RR) xx)) :=
    St.aG (St.aG (Ix d DI hτ) (oN ((aH _ _ _ _ (Ne.symm z3)).trans (aK _ _ _)) o1)) (oN (aK _ _ _) o2)
   refine .of (bD.less (l1:=[(9,.ptr nl3 0 0)]) ?_ hle) ?_
   ·simp(maxSteps:=4000000) (disch:=first|exact ddL|fail) only[go_sem,simprocAttr,aC,aB]
    all_goals first|rfl|(simp;done)
   have o3:=o2
   simp only[aQ] at o3
   obtain⟨w1,w2,w3,w4,w5,w6,w7,-⟩:=o3
   have n1:bfS m l q b B f fl d' nl3=none:=by simp only[aQ];exact⟨g3,by assumption,by assumption,by assumption,by assumption,rfl⟩
   have n2:bfS m l q b B f fl d' z=none:=by simp only[aQ];exact⟨w3,w4,w5,w6,w7,rfl⟩
   show R _
   clear hseq hal hres hout hle aI
   repeat' (first|(with_reducible first|(refine wT ?_;(first|((fail_if_success (have:=nl1));refine wN fun nl1 hnl=>?_)|((fail_if_success (have:=nl2));refine wN fun nl2 hnl=>?_)|((fail_if_success (have:=nl3));refine wN fun nl3 hnl=>?_)|((fail_if_success (have:=nl4));refine wN fun nl4 hnl=>?_)|((fail_if_success (have:=nl5));refine wN fun nl5 hnl=>?_)|((fail_if_success (have:=nl6));refine wN fun nl6 hnl=>?_)|refine wN fun _ hnl=>?_);revert hnl;(repeat refine wS fun _ _=>?_);intro hnl)|refine wE ?_|(refine wK ?_ ?_<;>intro h)|(refine wB ?_ ?_<;>intro h<;>simp only[h]))|simp(maxSteps:=4000000) (disch:=first|exact ddL|fail) only[go_sem,simprocAttr])
   exact Cz rfl (aK _ _ _) (fun k o hk=>(aH _ _ _ _ (fun e=>by subst e;rw[n2] at hk;cases hk)).trans ((aH _ _ _ _ (fun e=>by subst e;rw[n1] at hk;cases hk)).trans hk)) n2 (hRl.symm)
  ·repeat' (first|((with_reducible refine aT mixed ?chk C ?_);(case chk=>decide +kernel))|(with_reducible refine aP (k1 _) hpj ?_)|(with_reducible first|(refine wT ?_;(first|((fail_if_success (have:=nl1));refine wN fun nl1 hnl=>?_)|((fail_if_success (have:=nl2));refine wN fun nl2 hnl=>?_)|((fail_if_success (have:=nl3));refine wN fun nl3 hnl=>?_)|((fail_if_success (have:=nl4));refine wN fun nl4 hnl=>?_)|((fail_if_success (have:=nl5));refine wN fun nl5 hnl=>?_)|((fail_if_success (have:=nl6));refine wN fun nl6 hnl=>?_)|refine wN fun _ hnl=>?_);revert hnl;(repeat refine wS fun _ _=>?_);intro hnl)|refine wE ?_|(refine wK ?_ ?_<;>intro h)|(refine wB ?_ ?_<;>intro h<;>simp only[h]))|simp(maxSteps:=4000000) (disch:=first|exact ddL|fail) only[go_sem,simprocAttr,FXs,htk',hdr,hRl])
   all_goals (try (exfalso;omega))
   all_goals
    have p1:nl6≠nl1:=by assumption
    have p2:nl6≠nl2:=by assumption
    have p3:nl6≠nl3:=by assumption
    have p4:nl6≠nl4:=by assumption
    have p5:nl6≠nl5:=by assumption
    have hcu':∀c,c∈X.take (j+1)→c.id≤cur:=fun y hy=>by
     rw[htk,List.mem_append,List.mem_singleton] at hy
     rcases hy with hy|rfl
     ·exact hcu y hy
     ·omega
    clear hres hseq hre hcu hal ha hdr htk' hpj hX
   ·have hex:xx=[]:=List.eq_nil_of_length_eq_zero (by omega)
    subst hex
    clear h
    refine .of (bD.less (l1:=[]) (fun p hp=>by cases hp) (σ1:=idS nl1 nl2 nl3 nl6 mk cur (j+1) (RR++[pc.c]) []) ?_) ⟨(nl6,[]),by rw[hsn],p1,p2,p3,hcu'⟩
    clear hcu' k1 aI
    exact St.aG (St.aG (St.aG (St.aG (St.none_le _) (by simp[St.set, *])) (by simp[St.set, *])) (by simp[St.set, *])) (by simp[St.set, *])
   ·refine .of (bD.less (l1:=[]) (fun p hp=>by cases hp) (σ1:=idS nl1 nl2 nl3 nl6 mk cur (j+1) (RR++[pc.c]) (xx.drop 1)) ?_) ⟨(nl6,xx.drop 1),by rw[hsn],p1,p2,p3,hcu'⟩
    clear hcu' h k1 aI
    exact St.aG (St.aG (St.aG (St.aG (St.none_le _) (by simp[St.set, *])) (by simp[St.set, *])) (by simp[St.set, *])) (by simp[St.set, *])
 ·rintro⟨z,xx⟩ ⟨z1,z2,z3,hcu⟩
  rw[hxl] at hcu ⊢
  have hre:=hres (Nat.le_refl _) hcu (.inl rfl)
  simp only at z1 z2 z3 ⊢
  rintro τ hτ hout
  rw[hre]
  have o1:=hout nl3 _ ((aH _ _ _ _ (Ne.symm z3)).trans (aK _ _ _))
  have o2:=hout z _ (aK _ _ _)
  have hle:(((bfS m l q b B f fl d').set nl3 (.row 22 1 [[.vec 27 z 0 X.length]])).set z (.row 42 27 ((((X.take X.length).map fun c=>fY c mk).map CA.c)++xx))).le ((alI m l q b B [] fl f pb pf d).fA τ (idS nl1 nl2 nl3 z mk cur X.length ((((X.take X.length).map fun c=>fY c mk).map CA.c)) xx)) :=
   St.aG (St.aG (Ix d DI hτ) (oN ((aH _ _ _ _ (Ne.symm z3)).trans (aK _ _ _)) o1)) (oN (aK _ _ _) o2)
  refine .of (bD.less (l1:=[(9,.ptr nl3 0 0)]) ?_ hle) ?_
  ·simp(maxSteps:=4000000) (disch:=first|exact ddL|fail) only[go_sem,simprocAttr,aC,aB]
   all_goals first|rfl|(simp;done)
  have o3:=o2
  simp only[aQ] at o3
  obtain⟨w1,w2,w3,w4,w5,w6,w7,-⟩:=o3
  have n1:bfS m l q b B f fl d' nl3=none:=by simp only[aQ];exact⟨g3,by assumption,by assumption,by assumption,by assumption,rfl⟩
  have n2:bfS m l q b B f fl d' z=none:=by simp only[aQ];exact⟨w3,w4,w5,w6,w7,rfl⟩
  show R _
  clear hseq hal hres hout hle aI
  repeat' (first|(with_reducible first|(refine wT ?_;(first|((fail_if_success (have:=nl1));refine wN fun nl1 hnl=>?_)|((fail_if_success (have:=nl2));refine wN fun nl2 hnl=>?_)|((fail_if_success (have:=nl3));refine wN fun nl3 hnl=>?_)|((fail_if_success (have:=nl4));refine wN fun nl4 hnl=>?_)|((fail_if_success (have:=nl5));refine wN fun nl5 hnl=>?_)|((fail_if_success (have:=nl6));refine wN fun nl6 hnl=>?_)|refine wN fun _ hnl=>?_);revert hnl;(repeat refine wS fun _ _=>?_);intro hnl)|refine wE ?_|(refine wK ?_ ?_<;>intro h)|(refine wB ?_ ?_<;>intro h<;>simp only[h]))|simp(maxSteps:=4000000) (disch:=first|exact ddL|fail) only[go_sem,simprocAttr])
  exact Cz rfl (aK _ _ _) (fun k o hk=>(aH _ _ _ _ (fun e=>by subst e;rw[n2] at hk;cases hk)).trans ((aH _ _ _ _ (fun e=>by subst e;rw[n1] at hk;cases hk)).trans hk)) n2 (by rw[List.length_map,List.length_map,List.take_length])
end

section
set_option maxRecDepth 100000
set_option maxHeartbeats 8000000
noncomputable def o8(B:BK)(fl:List ND)(id:Int):CA × Bool:=if (gH B.cards B.dead id).2=0∧cU B.gr fl (gH B.cards B.dead id).1=true then((gH B.cards B.dead id).1,true) else(ca0,false)
theorem Gv{B:BK}{id:Int}(h:(gH B.cards B.dead id).2=0):(gH B.cards B.dead id).1∈B.cards∧(gH B.cards B.dead id).1.id=id:=by
 unfold gH at h ⊢
 cases e:B.cards.find? (fun c=>decide (c.id=id)) with
 | none=>rw[e] at h;simp only at h;split at h<;>cases h
 | some c=>exact⟨List.mem_of_find?_eq_some e,by simpa using List.find?_some e⟩
theorem Cm{B:BK}(hb:BkR B)(h3:B.gr.length≤1000000)(h4:∀g,g∈B.gr→g.mem.length≤1000000){m l q b f:Nat}(D:iT m l q b)(hf:f≠m∧f≠l∧f≠q∧f≠b){fl:List ND}(hp:b9 fl=0)(d:Bool)(hd:B.dead.length≤1000000)(id:Int) :
  aA Tryz.prog 13 [.ptr b 0 0,.ptr f 0 0,.int .i64 id] (bfS m l q b B f fl d) (fun r σ'=>r=.tup [.agg (o8 B fl id).1.c,.bool (o8 B fl id).2]∧σ'=bfS m l q b B f fl (d || decide ((gH B.cards B.dead id).2=0))):=by
 have hgt:=rQ hd D [] id
 have hgr:=gO B.sq l b B.gr h3 h4 hb.gok id
 obtain⟨f1,f2,f3,f4⟩:=hf
 have D':=D
 obtain⟨d1,d2,d3,d4,d5,d6⟩:=D
 have e1:=Ne.symm d1
 have e2:=Ne.symm d2
 have e3:=Ne.symm d3
 have e4:=Ne.symm d4
 have e5:=Ne.symm d5
 have e6:=Ne.symm d6
 have g1:=Ne.symm f1
 have g2:=Ne.symm f2
 have g3:=Ne.symm f3
 have g4:=Ne.symm f4
 refine aA.less (Q':=fun r σ'=>r=.tup [.agg (o8 B fl id).1.c,.bool (o8 B fl id).2]∧(bfS m l q b B f fl (d || decide ((gH B.cards B.dead id).2=0))).le σ') (aA.body 29 [.cell 6 42,.tmp 7] Tryz.func13 rfl rfl rfl rfl ?_) fun v σ' ⟨h1,h2⟩=>⟨_,h2,h1,rfl⟩
 have hz:=@Gv B id
 have hbf:bkS m l q b B [] f=none:=by simp only[aQ];exact⟨f4,f3,f2,f1,rfl⟩
 obtain⟨g,hg⟩:∃g,gH B.cards B.dead id=g:=⟨_,rfl⟩
 unfold o8
 rw[hg] at hgt hz ⊢
 obtain⟨c,e⟩:=g
 obtain⟨d',hd'⟩:∃d',(d || decide ((c,e).2=0))=d':=⟨_,rfl⟩
 rw[hd']
 simp only at hgt hz hd' ⊢
 by_cases he:e=0
 ·subst he
  obtain rfl:true=d':=by rw[←hd'];simp
  obtain⟨hc,hid⟩:=hz rfl
  have hmt:=rU hp hb.gok (pG hb hc).1 f d
  rw[hid] at hmt
  obtain⟨gg,hgg⟩:∃g:Int,(grB B.gr id:Int)=g:=⟨_,rfl⟩
  rw[hgg] at hmt hgr
  obtain⟨sb,hsb⟩:∃sb,cU B.gr fl c=sb:=⟨_,rfl⟩
  rw[hsb] at hmt ⊢
  obtain⟨DK,hDK,c1,c2⟩:∃DK:bT,PlU (.these [47]) DK∧(∀ms,DK 48 ms=some ⟨[b],fun v=>v=.int .u32 gg,none⟩)∧∀ms,DK 47 ms=some ⟨[f],fun _=>True,some ([flD fl true],fun _=>.bool sb)⟩ :=
   ⟨fnF [(48,⟨[b],fun v=>v=.int .u32 gg,none⟩),(47,⟨[f],fun _=>True,some ([flD fl true],fun _=>.bool sb)⟩)],sQ,fun _=>bN,fun _=>bE bN⟩
  cases sb
  ·repeat' (first|(refine eD hgt (fun k o hk=>cQ (by simp only[aQ];exact⟨by assumption,by assumption,by assumption,by assumption,by assumption,rfl⟩) k o (cQ hbf k o hk)) ?_)|(refine eY mixed [47] (by decide +kernel) DK hDK ?_)|(refine kR [b] [bJ B.sq l (.lst 2 (B.gr.map GR.c) false)] (c1 _) (by simp[St.set, *]) hgr ?_)|(refine nM (c2 _) (by simp[St.set, *]) hmt ?_)|(with_reducible first|(refine wN fun _ hnl=>?_;revert hnl;(repeat refine wS fun _ _=>?_);intro hnl)|refine wE ?_|(refine wK ?_ ?_<;>intro h)|(refine wB ?_ ?_<;>intro h<;>simp only[h]))|simp(maxSteps:=4000000) (disch:=first|decide|assumption|omega|(simp only[wL];omega)) only[go_sem,simprocAttr,FXs])
   exact⟨rfl,fun k o hk=>cQ (by simp only[aQ];exact⟨by assumption,by assumption,by assumption,by assumption,by assumption,by assumption,rfl⟩) k o (cQ (by simp only[aQ];exact⟨by assumption,by assumption,by assumption,by assumption,by assumption,rfl⟩) k o hk)⟩
  ·repeat' (first|(refine eD hgt (fun k o hk=>cQ (by simp only[aQ];exact⟨by assumption,by assumption,by assumption,by assumption,by assumption,rfl⟩) k o (cQ hbf k o hk)) ?_)|(refine eY mixed [47] (by decide +kernel) DK hDK ?_)|(refine kR [b] [bJ B.sq l (.lst 2 (B.gr.map GR.c) false)] (c1 _) (by simp[St.set, *]) hgr ?_)|(refine nM (c2 _) (by simp[St.set, *]) hmt ?_)|(with_reducible first|(refine wN fun _ hnl=>?_;revert hnl;(repeat refine wS fun _ _=>?_);intro hnl)|refine wE ?_|(refine wK ?_ ?_<;>intro h)|(refine wB ?_ ?_<;>intro h<;>simp only[h]))|simp(maxSteps:=4000000) (disch:=first|decide|assumption|omega|(simp only[wL];omega)) only[go_sem,simprocAttr,FXs])
   exact(fun k o hk=>cQ (by simp only[aQ];exact⟨by assumption,by assumption,by assumption,by assumption,by assumption,by assumption,rfl⟩) k o (cQ (by simp only[aQ];exact⟨by assumption,by assumption,by assumption,by assumption,by assumption,rfl⟩) k o hk))
 ·clear hz
  obtain rfl:d=d':=by rw[←hd'];simp[he]
  obtain⟨DK,hDK⟩:∃DK:bT,PlU (.these [47]) DK:=⟨fnF [(48,⟨[b],fun v=>True,none⟩),(47,⟨[f],fun _=>True,some ([flD fl true],fun _=>.bool true)⟩)],sQ⟩
  repeat' (first|(refine eD hgt (fun k o hk=>cQ (by simp only[aQ];exact⟨by assumption,by assumption,by assumption,by assumption,by assumption,rfl⟩) k o (cQ hbf k o hk)) ?_)|(refine eY mixed [47] (by decide +kernel) DK hDK ?_)|(with_reducible first|(refine wN fun _ hnl=>?_;revert hnl;(repeat refine wS fun _ _=>?_);intro hnl)|refine wE ?_|(refine wK ?_ ?_<;>intro h)|(refine wB ?_ ?_<;>intro h<;>simp only[h]))|simp(maxSteps:=4000000) (disch:=first|decide|assumption|omega|(simp only[wL];omega)) only[go_sem,simprocAttr,FXs,he])
  exact⟨rfl,fun k o hk=>cQ (by simp only[aQ];exact⟨by assumption,by assumption,by assumption,by assumption,by assumption,by assumption,rfl⟩) k o (cQ (by simp only[aQ];exact⟨by assumption,by assumption,by assumption,by assumption,by assumption,rfl⟩) k o hk)⟩
end

section
set_option maxRecDepth 100000
set_option maxHeartbeats 8000000
theorem Kd(id:Int):aA Tryz.prog 46 [.nilp,.int .i64 id] St.none (fun v _=>v=.tup [.agg ca0.c,.int .i64 14]):=by
 refine(aA.body 17 [.cell 4 42,.tmp 5] Tryz.func46 rfl rfl rfl rfl ?_)
 repeat' (first|(with_reducible first|(refine wN fun _ hnl=>?_;revert hnl;(repeat refine wS fun _ _=>?_);intro hnl)|refine wE ?_|(refine wK ?_ ?_<;>intro h)|(refine wB ?_ ?_<;>intro h<;>simp only[h]))|simp(maxSteps:=4000000) (disch:=first|exact ddL|fail) only[go_sem,simprocAttr,Tryz.f46])
 all_goals rfl
theorem Ek:aA Tryz.prog 96 [.nilp] St.none (fun v _=>v=.a8):=by
 refine(aA.body 10 [.tmp 2] Tryz.func96 rfl rfl rfl rfl ?_)
 repeat' (first|(with_reducible first|(refine wN fun _ hnl=>?_;revert hnl;(repeat refine wS fun _ _=>?_);intro hnl)|refine wE ?_|(refine wK ?_ ?_<;>intro h)|(refine wB ?_ ?_<;>intro h<;>simp only[h]))|simp(maxSteps:=4000000) (disch:=first|exact ddL|fail) only[go_sem,simprocAttr,Tryz.f96])
theorem uS(c:CA)(g:Int):aA Tryz.prog 47 [.nilp,.agg c.c,.int .u32 g] St.none (fun v _=>v=.bool false):=by
 refine(aA.body 20 [.tmp 6] Tryz.func47 rfl rfl rfl rfl ?_)
 repeat' (first|(with_reducible first|(refine wN fun _ hnl=>?_;revert hnl;(repeat refine wS fun _ _=>?_);intro hnl)|refine wE ?_|(refine wK ?_ ?_<;>intro h)|(refine wB ?_ ?_<;>intro h<;>simp only[h]))|simp(maxSteps:=4000000) (disch:=first|exact ddL|fail) only[go_sem,simprocAttr,Tryz.f47,FXs])
theorem Kb(f pb pf:Nat)(hne:pf≠pb):l5 Tryz.prog 95 [.ptr pb 0 0,.ptr pf 0 0] ((St.none.set pb (.row 33 1 [[.nilp]])).set pf (.row 36 1 [[.ptr f 0 0]])) [] (fun τ=>True):=by
 refine l5.jI 27 Tryz.func95 rfl rfl rfl rfl fun C hC hspec=>?_
 have hcs:=Ek
 have hne':=Ne.symm hne
 refine dH (cJ (eN ?_))
 repeat' (first|(refine aL hcs ?_)|(with_reducible first|(refine wN fun _ hnl=>?_;revert hnl;(repeat refine wS fun _ _=>?_);intro hnl)|refine wE ?_|(refine wK ?_ ?_<;>intro h)|(refine wB ?_ ?_<;>intro h<;>simp only[h]))|simp(maxSteps:=4000000) (disch:=first|exact ddL|fail) only[go_sem,simprocAttr,Tryz.f95])
 refine dH (iD (qE (α:=Unit) (fun a=>⟨27,[(0,.fn (.yield C.l) [] []),(9,.int .i64 0),(8,.int .i64 0),(7,.a8),(1,.ptr pb 0 0),(2,.ptr pf 0 0)],[]⟩) (fun a=>(St.none.set pb (.row 33 1 [[.nilp]])).set pf (.row 36 1 [[.ptr f 0 0]])) (fun a=>some 0)
   (fun a=>True) (fun a=>0) ?_ ?_))
 ·refine .of (.less ?_ (St.le_refl _)) ⟨(),rfl,rfl,rfl,trivial⟩
  simp(maxSteps:=4000000) (disch:=first|exact ddL|fail) only[go_sem,simprocAttr,aC,aB]
  all_goals first|rfl|(simp;done)
 ·rintro⟨⟩ -
  refine cJ (eN ?_)
  repeat' (first|(with_reducible first|(refine wN fun _ hnl=>?_;revert hnl;(repeat refine wS fun _ _=>?_);intro hnl)|refine wE ?_|(refine wK ?_ ?_<;>intro h)|(refine wB ?_ ?_<;>intro h<;>simp only[h]))|simp(maxSteps:=4000000) (disch:=first|exact ddL|fail) only[go_sem,simprocAttr])
  refine dH (cJ (eN ?_))
  repeat' (first|(with_reducible first|(refine wN fun _ hnl=>?_;revert hnl;(repeat refine wS fun _ _=>?_);intro hnl)|refine wE ?_|(refine wK ?_ ?_<;>intro h)|(refine wB ?_ ?_<;>intro h<;>simp only[h]))|simp(maxSteps:=4000000) (disch:=first|exact ddL|fail) only[go_sem,simprocAttr])
  exact⟨rfl,.inl rfl,trivial⟩
noncomputable abbrev alN(m l q b:Nat)(B:BK)(pb pf:Nat):St:=((bkS m l q b B []).set pb (.row 33 1 [[.ptr b 0 0]])).set pf (.row 36 1 [[.nilp]])
structure MX (m l q b pb pf:Nat):Prop where
 h2:pb≠m∧pb≠l∧pb≠q∧pb≠b
 h3:pf≠m∧pf≠l∧pf≠q∧pf≠b∧pf≠pb
theorem Ch{L:List FuncId}{g1 g2:FuncId}{r1 r2:List Nat}{q1 q2:MV→Prop}:PlU (.these L) (fnF [(g1,⟨r1,q1,none⟩),(g2,⟨r2,q2,none⟩)]):=by
 intro g' ms rd q' x' h
 simp only[fnF] at h
 split at h
 ·cases h
 ·split at h
  ·cases h
  ·cases h
theorem Kc{B:BK}(hb:BkR B)(h3:B.gr.length≤1000000)(h4:∀g,g∈B.gr→g.mem.length≤1000000){m l q b pb pf:Nat}(D:iT m l q b)(DI:MX m l q b pb pf) :
  l5 Tryz.prog 95 [.ptr pb 0 0,.ptr pf 0 0] (alN m l q b B pb pf) [] (fun τ=>(alN m l q b B pb pf).le τ):=by
 refine l5.jI 27 Tryz.func95 rfl rfl rfl rfl fun C hC hspec=>?_
 have hri:=oX hb.cok hb.nx2 (by have:=hb.nc;omega)
 have hcs:=oF B.nx B.sq (.vec 3 q 0 B.dead.length) (.lst 2 (B.gr.map GR.c) false) B.cards D.lm D.bm D.bl hri
 have hgr:=gO B.sq l b B.gr h3 h4 hb.gok
 have hnc:=hb.nc
 obtain⟨d1,d2,d3,d4,d5,d6⟩:=D
 obtain⟨⟨p1,p2,p3,p4⟩,⟨r1,r2,r3,r4,r6⟩⟩:=DI
 have e1:=Ne.symm d1
 have e2:=Ne.symm d2
 have e3:=Ne.symm d3
 have e4:=Ne.symm d4
 have e5:=Ne.symm d5
 have e6:=Ne.symm d6
 have p1':=Ne.symm p1
 have p2':=Ne.symm p2
 have p3':=Ne.symm p3
 have p4':=Ne.symm p4
 have r1':=Ne.symm r1
 have r2':=Ne.symm r2
 have r3':=Ne.symm r3
 have r4':=Ne.symm r4
 have r6':=Ne.symm r6
 refine dH (cJ (eN ?_))
 repeat' (first|(refine eD hcs (St.aG (le2 (by simp[St.set, *]) (by simp[St.set, *])) (by simp[St.set, *])) ?_)|(with_reducible first|(refine wN fun _ hnl=>?_;revert hnl;(repeat refine wS fun _ _=>?_);intro hnl)|refine wE ?_|(refine wK ?_ ?_<;>intro h)|(refine wB ?_ ?_<;>intro h<;>simp only[h]))|simp(maxSteps:=4000000) (disch:=first|exact ddL|fail) only[go_sem,simprocAttr,Tryz.f95])
 refine dH (iD (qE (α:=Nat) (fun a=>⟨27,[(0,.fn (.yield C.l) [] []),(9,.int .i64 (a:Int)),(8,.int .i64 (B.cards.length:Int)),(7,.lst 27 (B.cards.map CA.c) false),(1,.ptr pb 0 0),(2,.ptr pf 0 0)],[]⟩) (fun a=>alN m l q b B pb pf) (fun a=>some 0)
   (fun a=>a≤B.cards.length) (fun a=>B.cards.length - a) ?_ ?_))
 ·refine .of (.less ?_ (St.le_refl _)) ⟨0,rfl,rfl,rfl,Nat.zero_le _⟩
  simp(maxSteps:=4000000) (disch:=first|exact ddL|fail) only[go_sem,simprocAttr,aC,aB]
  all_goals first|rfl|(simp;done)
 ·rintro i hi
  try simp only at hi ⊢
  refine cJ (eN ?_)
  repeat' (first|(with_reducible first|(refine wN fun _ hnl=>?_;revert hnl;(repeat refine wS fun _ _=>?_);intro hnl)|refine wE ?_|(refine wK ?_ ?_<;>intro h)|(refine wB ?_ ?_<;>intro h<;>simp only[h]))|simp(maxSteps:=4000000) (disch:=first|exact ddL|fail) only[go_sem,simprocAttr])
  by_cases hlt:i<B.cards.length
  ·obtain⟨x,hx⟩:=bO B.cards hlt
   have hat:=bH (f:=CA.c) hx
   refine dH (cJ (eN ?_))
   repeat' (first|(with_reducible first|(refine wN fun _ hnl=>?_;revert hnl;(repeat refine wS fun _ _=>?_);intro hnl)|refine wE ?_|(refine wK ?_ ?_<;>intro h)|(refine wB ?_ ?_<;>intro h<;>simp only[h]))|simp(maxSteps:=4000000) (disch:=first|exact ddL|fail) only[go_sem,simprocAttr,hat])
   refine dH (cJ (iD (cJ (eN ?_))))
   repeat' (first|(with_reducible first|(refine wN fun _ hnl=>?_;revert hnl;(repeat refine wS fun _ _=>?_);intro hnl)|refine wE ?_|(refine wK ?_ ?_<;>intro h)|(refine wB ?_ ?_<;>intro h<;>simp only[h]))|simp(maxSteps:=4000000) (disch:=first|exact ddL|fail) only[go_sem,simprocAttr,hat,FXs])
   have hgx:=hgr x.id
   obtain⟨g,hg⟩:∃g:Int,(grB B.gr x.id:Int)=g:=⟨_,rfl⟩
   have hmt:=uS x g
   rw[hg] at hgx
   obtain⟨DK,hDK,c1,c2⟩:∃DK:bT,PlU (.these [47]) DK∧(∀ms,DK 48 ms=some ⟨[b],fun v=>v=.int .u32 g,none⟩)∧∀ms,DK 47 ms=some ⟨[],fun v=>v=.bool false,none⟩ :=
    ⟨fnF [(48,⟨[b],fun v=>v=.int .u32 g,none⟩),(47,⟨[],fun v=>v=.bool false,none⟩)],Ch,fun _=>bN,fun _=>bE bN⟩
   refine dH (cJ (vN mixed [47] DK hDK [_,_,_,_,_,_,_,_,_,_] [_,_] rfl (by decide +kernel) hspec ?_))
   repeat' (first|(refine kR [b] [bJ B.sq l (.lst 2 (B.gr.map GR.c) false)] (c1 _) (by simp[St.set, *]) hgx ?_)|(refine fR (c2 _) hmt ?_)|(with_reducible first|(refine wN fun _ hnl=>?_;revert hnl;(repeat refine wS fun _ _=>?_);intro hnl)|refine wE ?_|(refine wK ?_ ?_<;>intro h)|(refine wB ?_ ?_<;>intro h<;>simp only[h]))|simp(maxSteps:=4000000) (disch:=first|exact ddL|fail) only[go_sem,simprocAttr,FXs])
   refine dH (eN ?_)
   repeat' (first|(with_reducible first|(refine wN fun _ hnl=>?_;revert hnl;(repeat refine wS fun _ _=>?_);intro hnl)|refine wE ?_|(refine wK ?_ ?_<;>intro h)|(refine wB ?_ ?_<;>intro h<;>simp only[h]))|simp(maxSteps:=4000000) (disch:=first|exact ddL|fail) only[go_sem,simprocAttr])
   refine dH (eN ?_)
   repeat' (first|(with_reducible first|(refine wN fun _ hnl=>?_;revert hnl;(repeat refine wS fun _ _=>?_);intro hnl)|refine wE ?_|(refine wK ?_ ?_<;>intro h)|(refine wB ?_ ?_<;>intro h<;>simp only[h]))|simp(maxSteps:=4000000) (disch:=first|exact ddL|fail) only[go_sem,simprocAttr])
   refine .of (.less ?_ (cQ (by simp only[aQ];exact⟨by assumption,by assumption,by assumption,by assumption,by assumption,by assumption,rfl⟩))) ⟨i+1,rfl,rfl,by omega,by omega⟩
   simp(maxSteps:=4000000) (disch:=first|exact ddL|fail) only[go_sem,simprocAttr,aC,aB]
   all_goals first|rfl|(simp;done)
  ·have:i=B.cards.length:=by omega
   subst this
   refine dH (cJ (eN ?_))
   repeat' (first|(with_reducible first|(refine wN fun _ hnl=>?_;revert hnl;(repeat refine wS fun _ _=>?_);intro hnl)|refine wE ?_|(refine wK ?_ ?_<;>intro h)|(refine wB ?_ ?_<;>intro h<;>simp only[h]))|simp(maxSteps:=4000000) (disch:=first|exact ddL|fail) only[go_sem,simprocAttr])
   exact⟨rfl,.inl rfl,St.le_refl _⟩
end

section
set_option maxRecDepth 100000
set_option maxHeartbeats 8000000
theorem B5(f:Nat):aA Tryz.prog 52 [.nilp,.ptr f 0 0] St.none (fun v σ'=>∃m l,l≠m∧v=.fn (.func 95) [] [.ptr m 0 0,.ptr l 0 0]∧σ'=(St.none.set m (.row 33 1 [[.nilp]])).set l (.row 36 1 [[.ptr f 0 0]])):=by
 refine(aA.body 6 [.tmp 4] Tryz.func52 rfl rfl rfl rfl ?_)
 repeat' (first|(with_reducible first|(refine wN fun _ hnl=>?_;revert hnl;(repeat refine wS fun _ _=>?_);intro hnl)|refine wE ?_|(refine wK ?_ ?_<;>intro h)|(refine wB ?_ ?_<;>intro h<;>simp only[h]))|simp(maxSteps:=4000000) (disch:=first|exact ddL|fail) only[go_sem,simprocAttr,Tryz.f52])
 all_goals exact⟨_,_,by assumption,rfl,rfl⟩
theorem Ai(b:Nat):aA Tryz.prog 52 [.ptr b 0 0,.nilp] St.none (fun v σ'=>∃m l,l≠m∧v=.fn (.func 95) [] [.ptr m 0 0,.ptr l 0 0]∧σ'=(St.none.set m (.row 33 1 [[.ptr b 0 0]])).set l (.row 36 1 [[.nilp]])):=by
 refine(aA.body 6 [.tmp 4] Tryz.func52 rfl rfl rfl rfl ?_)
 repeat' (first|(with_reducible first|(refine wN fun _ hnl=>?_;revert hnl;(repeat refine wS fun _ _=>?_);intro hnl)|refine wE ?_|(refine wK ?_ ?_<;>intro h)|(refine wB ?_ ?_<;>intro h<;>simp only[h]))|simp(maxSteps:=4000000) (disch:=first|exact ddL|fail) only[go_sem,simprocAttr,Tryz.f52])
 all_goals exact⟨_,_,by assumption,rfl,rfl⟩
theorem Ke(f:Nat):aA Tryz.prog 15 [.nilp,.ptr f 0 0] St.none (fun v _=>v=.a8):=by
 refine(aA.body 17 [.tmp 4] Tryz.func15 rfl rfl rfl rfl ?_)
 have hal:=B5 f
 repeat' (first|(refine kZ hal ?_;(intro pb pf hpb hpf hne;have hpb1:=hpb;have hpf1:=hpf;simp only[aQ] at hpb1 hpf1))|(with_reducible first|(refine wT ?_;(first|((fail_if_success (have:=nl1));refine wN fun nl1 hnl=>?_)|refine wN fun _ hnl=>?_);revert hnl;(repeat refine wS fun _ _=>?_);intro hnl)|refine wE ?_|(refine wK ?_ ?_<;>intro h)|(refine wB ?_ ?_<;>intro h<;>simp only[h]))|simp(maxSteps:=4000000) (disch:=first|exact ddL|fail) only[go_sem,simprocAttr,Tryz.f15])
 obtain⟨b1,-⟩:=hpb1
 obtain⟨c1,-⟩:=hpf1
 have b1':=Ne.symm b1
 have c1':=Ne.symm c1
 refine dH (oD (gf:=95) (xs:=[]) rfl (σi:=(St.none.set pb (.row 33 1 [[.nilp]])).set pf (.row 36 1 [[.ptr f 0 0]])) (St.hZ (St.hZ (St.none_le _))) (Kb f pb pf hne).forget ?_ rfl rfl
  (fc:=⟨17,[(5,.ptr nl1 0 0)],[]⟩) rfl (α:=Unit) (fun j a=>St.none.set nl1 (.row 46 1 [[.a8]])) (fun j a=>True) ?_ ?_ ?_)
 ·intro x hx;cases hx
 ·refine .of (.less (l1:=[(5,.ptr nl1 0 0)]) ?_ ?_) ⟨rfl,(),rfl,trivial⟩
  ·simp(maxSteps:=4000000) (disch:=first|exact ddL|fail) only[go_sem,simprocAttr,aC,aB]
   all_goals first|rfl|(simp;done)
  ·refine St.aG (St.none_le _) ?_
   unfold St.minus
   simp[St.set,b1',c1']
   rfl
 ·intro j x a hx;simp at hx
 ·intro a _
  show R _
  repeat' (first|(with_reducible first|(refine wT ?_;(first|((fail_if_success (have:=nl1));refine wN fun nl1 hnl=>?_)|refine wN fun _ hnl=>?_);revert hnl;(repeat refine wS fun _ _=>?_);intro hnl)|refine wE ?_|(refine wK ?_ ?_<;>intro h)|(refine wB ?_ ?_<;>intro h<;>simp only[h]))|simp(maxSteps:=4000000) (disch:=first|exact ddL|fail) only[go_sem,simprocAttr])
theorem N4{m l q b pb pf:Nat}{B:BK}{τ S:St}(DI:MX m l q b pb pf)(hτ:(alN m l q b B pb pf).le τ):(bkS m l q b B []).le ((alN m l q b B pb pf).fA τ S):=by
 obtain⟨⟨p1,p2,p3,p4⟩,⟨r1,r2,r3,r4,r6⟩⟩:=DI
 intro k o hk
 have hd:k=b∨k=q∨k=l∨k=m:=by
  rcases cO hk with⟨e,_⟩|⟨_,h⟩
  ·exact .inl e
  rcases cO h with⟨e,_⟩|⟨_,h⟩
  ·exact .inr (.inl e)
  rcases cO h with⟨e,_⟩|⟨_,h⟩
  ·exact .inr (.inr (.inl e))
  rcases cO h with⟨e,_⟩|⟨_,h⟩
  ·exact .inr (.inr (.inr e))
  ·cases h
 have k1:k≠pb:=fun e=>by
  subst e
  rcases hd with e|e|e|e
  ·exact p4 e
  ·exact p3 e
  ·exact p2 e
  ·exact p1 e
 have k2:k≠pf:=fun e=>by
  subst e
  rcases hd with e|e|e|e
  ·exact r4 e
  ·exact r3 e
  ·exact r2 e
  ·exact r1 e
 have h1:alN m l q b B pb pf k=some o:=(aH _ _ _ _ k2).trans ((aH _ _ _ _ k1).trans hk)
 unfold St.fA
 rw[h1]
 exact hτ k o h1
theorem Nd{m l q b pb pf:Nat}{B:BK}{τ:St}(hτ:(alN m l q b B pb pf).le τ) :
  ∀k o,alN m l q b B pb pf k≠none→τ k=some o→InO (fun k=>alN m l q b B pb pf k≠none) o:=by
 intro k o hk ho
 obtain⟨o',ho'⟩:∃o',alN m l q b B pb pf k=some o':=by
  cases e:alN m l q b B pb pf k with
  | some o'=>exact⟨o',rfl⟩
  | none=>exact absurd e hk
 have e:=hτ k o' ho'
 rw[ho] at e
 obtain rfl:=Option.some.inj e
 rcases cO ho' with⟨rfl,rfl⟩|⟨_,h⟩
 ·intro y hy z hz
  rw[List.mem_singleton] at hy
  subst hy
  rw[List.mem_singleton] at hz
  subst hz
  exact .flat .nilp
 rcases cO h with⟨rfl,rfl⟩|⟨_,h⟩
 ·intro y hy z hz
  rw[List.mem_singleton] at hy
  subst hy
  rw[List.mem_singleton] at hz
  subst hz
  exact .ptr (by simp only[j4];simp)
 rcases cO h with⟨rfl,rfl⟩|⟨_,h⟩
 ·intro y hy z hz
  rw[List.mem_singleton] at hy
  subst hy
  simp only[List.mem_cons,List.not_mem_nil,or_false] at hz
  rcases hz with rfl|rfl|rfl
  ·exact .flat (.int _ _)
  ·exact .ptr (by simp only[j4];simp)
  ·exact .lst fun x hx=>by
    obtain⟨n,_,rfl⟩:=List.mem_map.1 hx
    exact MG n
 rcases cO h with⟨rfl,rfl⟩|⟨_,h⟩
 ·intro y hy
  rcases List.mem_append.1 hy with hy|hy
  ·obtain⟨n,_,rfl⟩:=List.mem_map.1 hy
   exact MF n
  ·cases hy
 rcases cO h with⟨rfl,rfl⟩|⟨_,h⟩
 ·intro y hy z hz
  rw[List.mem_singleton] at hy
  subst hy
  simp only[List.mem_cons,List.not_mem_nil,or_false] at hz
  rcases hz with rfl|rfl|rfl
  ·exact .flat (.int _ _)
  ·exact .mapv (by simp only[j4];simp)
  ·exact .vec (by simp only[j4];simp)
 rcases cO h with⟨rfl,rfl⟩|⟨_,h⟩
 ·intro z hz
  obtain⟨c,_,rfl⟩:=List.mem_map.1 hz
  exact⟨.flat (.int _ _),.of (oU c _ (List.mem_singleton.2 rfl))⟩
 ·cases h
theorem Eo{B:BK}(hb:BkR B)(h3:B.gr.length≤1000000)(h4:∀g,g∈B.gr→g.mem.length≤1000000){m l q b:Nat}(D:iT m l q b)(mk:UInt32)(cur:Int) :
  aA Tryz.prog 16 [.ptr b 0 0,.nilp,.int .u32 (mk.toNat:Int),.int .i64 cur] (bkS m l q b B []) (fun r σ'=>r=.a8∧σ'=bkS m l q b B []):=by
 refine aA.less (Q':=fun r σ'=>r=.a8∧(bkS m l q b B []).le σ') (aA.body 26 [.tmp 8] Tryz.func16 rfl rfl rfl rfl ?_) fun v σ' ⟨h1,h2⟩=>⟨_,h2,h1,rfl⟩
 have hal:=Ai b
 repeat' (first|(refine kZ hal ?_;(intro pb pf hpb hpf hne;have hpb1:=hpb;have hpf1:=hpf;simp only[aQ] at hpb1 hpf1))|(with_reducible first|(refine wT ?_;(first|((fail_if_success (have:=nl1));refine wN fun nl1 hnl=>?_)|((fail_if_success (have:=nl2));refine wN fun nl2 hnl=>?_)|((fail_if_success (have:=nl3));refine wN fun nl3 hnl=>?_)|refine wN fun _ hnl=>?_);revert hnl;(repeat refine wS fun _ _=>?_);intro hnl)|refine wE ?_|(refine wK ?_ ?_<;>intro h)|(refine wB ?_ ?_<;>intro h<;>simp only[h]))|simp(maxSteps:=4000000) (disch:=first|exact ddL|fail) only[go_sem,simprocAttr,Tryz.f16])
 obtain⟨b1,b2,b3,b5,b6,b7,b8,-⟩:=hpb1
 obtain⟨c1,c2,c3,c5,c6,c7,c8,-⟩:=hpf1
 have n12:nl2≠nl1:=by assumption
 have DI:MX m l q b pb pf:=⟨⟨b8,b7,b6,b5⟩,⟨c8,c7,c6,c5,hne⟩⟩
 have m3:bkS m l q b B [] nl3=none:=by simp only[aQ];exact⟨by assumption,by assumption,by assumption,by assumption,rfl⟩
 have s3:alN m l q b B pb pf nl3=none:=by simp only[aQ];exact⟨Ne.symm c1,Ne.symm b1,by assumption,by assumption,by assumption,by assumption,rfl⟩
 refine dH (jY (gf:=95) (xs:=[]) rfl (σi:=alN m l q b B pb pf) (fun j o hj=>?_) (K:=fun τ=>(alN m l q b B pb pf).le τ) (fun τ hτ=>Nd hτ) (Kc hb h3 h4 D DI) ?_ rfl rfl
  (fc:=⟨26,[(9,.ptr nl3 0 0)],[]⟩) rfl (α:=Unit) (fun j a=>St.none.set nl3 (.row 22 1 [[.a8]])) (fun j a=>True) ?_ ?_ ?_)
 ·have ha:∀{k:Nat},k≠m→k≠l→k≠q→k≠b→bkS m l q b B [] k=none:=fun h1 h2 h3 h4=>by simp only[aQ];exact⟨h4,h3,h2,h1,rfl⟩
  have m1:bkS m l q b B [] nl1=none:=ha (by assumption) (by assumption) (by assumption) (by assumption)
  have m2:bkS m l q b B [] nl2=none:=ha (by assumption) (by assumption) (by assumption) (by assumption)
  rcases cO hj with⟨rfl,rfl⟩|⟨j1,hj⟩
  ·exact aK _ _ _
  refine(aH _ _ _ _ j1).trans ?_
  rcases cO hj with⟨rfl,rfl⟩|⟨j2,hj⟩
  ·exact aK _ _ _
  refine(aH _ _ _ _ j2).trans ?_
  exact(aH _ _ _ _ (fun e=>by subst e;rw[m3] at hj;cases hj)).trans ((aH _ _ _ _ (fun e=>by subst e;rw[m2] at hj;cases hj)).trans ((aH _ _ _ _ (fun e=>by subst e;rw[m1] at hj;cases hj)).trans hj))
 ·intro x hx;cases hx
 ·refine .of (.less (l1:=[(9,.ptr nl3 0 0)]) ?_ ?_) ⟨rfl,(),rfl,trivial⟩
  ·simp(maxSteps:=4000000) (disch:=first|exact ddL|fail) only[go_sem,simprocAttr,aC,aB]
   all_goals first|rfl|(simp;done)
  ·refine St.aG (St.none_le _) ?_
   unfold St.minus
   rw[s3]
   exact(aH _ _ _ _ (Ne.symm c1)).trans ((aH _ _ _ _ (Ne.symm b1)).trans (aK _ _ _))
 ·intro j x a hx;simp at hx
 ·rintro a - τ hτ hout
  have hle:((bkS m l q b B []).set nl3 (.row 22 1 [[.a8]])).le ((alN m l q b B pb pf).fA τ (St.none.set nl3 (.row 22 1 [[.a8]]))):=St.aG (N4 DI hτ) (oN (aK _ _ _) s3)
  refine .of (bD.less (l1:=[(9,.ptr nl3 0 0)]) ?_ hle) ?_
  ·simp(maxSteps:=4000000) (disch:=first|exact ddL|fail) only[go_sem,simprocAttr,aC,aB]
   all_goals first|rfl|(simp;done)
  show R _
  repeat' (first|(with_reducible first|(refine wT ?_;(first|((fail_if_success (have:=nl1));refine wN fun nl1 hnl=>?_)|((fail_if_success (have:=nl2));refine wN fun nl2 hnl=>?_)|((fail_if_success (have:=nl3));refine wN fun nl3 hnl=>?_)|refine wN fun _ hnl=>?_);revert hnl;(repeat refine wS fun _ _=>?_);intro hnl)|refine wE ?_|(refine wK ?_ ?_<;>intro h)|(refine wB ?_ ?_<;>intro h<;>simp only[h]))|simp(maxSteps:=4000000) (disch:=first|exact ddL|fail) only[go_sem,simprocAttr])
  exact cQ m3
theorem Ew(f:Nat)(id:Int):aA Tryz.prog 13 [.nilp,.ptr f 0 0,.int .i64 id] St.none (fun r _=>r=.tup [.agg ca0.c,.bool false]):=by
 refine(aA.body 29 [.cell 6 42,.tmp 7] Tryz.func13 rfl rfl rfl rfl ?_)
 have hgt:=Kd id
 obtain⟨DK,hDK⟩:∃DK:bT,PlU (.these [47]) DK:=⟨fnF [(48,⟨[],fun v=>True,none⟩),(47,⟨[f],fun _=>True,some ([flD [] true],fun _=>.bool true)⟩)],sQ⟩
 repeat' (first|(refine aL hgt ?_)|(refine eY mixed [47] (by decide +kernel) DK hDK ?_)|(with_reducible first|(refine wN fun _ hnl=>?_;revert hnl;(repeat refine wS fun _ _=>?_);intro hnl)|refine wE ?_|(refine wK ?_ ?_<;>intro h)|(refine wB ?_ ?_<;>intro h<;>simp only[h]))|simp(maxSteps:=4000000) (disch:=first|exact ddL|fail) only[go_sem,simprocAttr,FXs])
 all_goals rfl
theorem Ex{B:BK}(hb:BkR B)(h3:B.gr.length≤1000000)(h4:∀g,g∈B.gr→g.mem.length≤1000000){m l q b:Nat}(D:iT m l q b)(hd:B.dead.length≤1000000)(id:Int) :
  aA Tryz.prog 13 [.ptr b 0 0,.nilp,.int .i64 id] (bkS m l q b B []) (fun r σ'=>r=.tup [.agg ca0.c,.bool false]∧σ'=bkS m l q b B []):=by
 have hgt:=rQ hd D [] id
 have hgr:=gO B.sq l b B.gr h3 h4 hb.gok id
 obtain⟨d1,d2,d3,d4,d5,d6⟩:=D
 have e1:=Ne.symm d1
 have e2:=Ne.symm d2
 have e3:=Ne.symm d3
 have e4:=Ne.symm d4
 have e5:=Ne.symm d5
 have e6:=Ne.symm d6
 refine aA.less (Q':=fun r σ'=>r=.tup [.agg ca0.c,.bool false]∧(bkS m l q b B []).le σ') (aA.body 29 [.cell 6 42,.tmp 7] Tryz.func13 rfl rfl rfl rfl ?_) fun v σ' ⟨h1,h2⟩=>⟨_,h2,h1,rfl⟩
 obtain⟨g,hg⟩:∃g,gH B.cards B.dead id=g:=⟨_,rfl⟩
 rw[hg] at hgt
 obtain⟨c,e⟩:=g
 simp only at hgt
 obtain⟨gg,hgg⟩:∃g:Int,(grB B.gr id:Int)=g:=⟨_,rfl⟩
 rw[hgg] at hgr
 have hmt:=uS c gg
 obtain⟨DK,hDK,c1,c2⟩:∃DK:bT,PlU (.these [47]) DK∧(∀ms,DK 48 ms=some ⟨[b],fun v=>v=.int .u32 gg,none⟩)∧∀ms,DK 47 ms=some ⟨[],fun v=>v=.bool false,none⟩ :=
  ⟨fnF [(48,⟨[b],fun v=>v=.int .u32 gg,none⟩),(47,⟨[],fun v=>v=.bool false,none⟩)],Ch,fun _=>bN,fun _=>bE bN⟩
 by_cases he:e=0
 ·subst he
  repeat' (first|(refine eD hgt (cQ (by simp only[aQ];exact⟨by assumption,by assumption,by assumption,by assumption,rfl⟩)) ?_)|(refine eY mixed [47] (by decide +kernel) DK hDK ?_)|(refine kR [b] [bJ B.sq l (.lst 2 (B.gr.map GR.c) false)] (c1 _) (by simp[St.set, *]) hgr ?_)|(refine fR (c2 _) hmt ?_)|(with_reducible first|(refine wN fun _ hnl=>?_;revert hnl;(repeat refine wS fun _ _=>?_);intro hnl)|refine wE ?_|(refine wK ?_ ?_<;>intro h)|(refine wB ?_ ?_<;>intro h<;>simp only[h]))|simp(maxSteps:=4000000) (disch:=first|exact ddL|fail) only[go_sem,simprocAttr,FXs])
  exact⟨rfl,fun k o hk=>cQ (by simp only[aQ];exact⟨by assumption,by assumption,by assumption,by assumption,by assumption,rfl⟩) k o (cQ (by simp only[aQ];exact⟨by assumption,by assumption,by assumption,by assumption,rfl⟩) k o hk)⟩
 ·repeat' (first|(refine eD hgt (cQ (by simp only[aQ];exact⟨by assumption,by assumption,by assumption,by assumption,rfl⟩)) ?_)|(refine eY mixed [47] (by decide +kernel) DK hDK ?_)|(with_reducible first|(refine wN fun _ hnl=>?_;revert hnl;(repeat refine wS fun _ _=>?_);intro hnl)|refine wE ?_|(refine wK ?_ ?_<;>intro h)|(refine wB ?_ ?_<;>intro h<;>simp only[h]))|simp(maxSteps:=4000000) (disch:=first|exact ddL|fail) only[go_sem,simprocAttr,FXs,he])
  exact⟨rfl,fun k o hk=>cQ (by simp only[aQ];exact⟨by assumption,by assumption,by assumption,by assumption,by assumption,rfl⟩) k o (cQ (by simp only[aQ];exact⟨by assumption,by assumption,by assumption,by assumption,rfl⟩) k o hk)⟩
end

section
set_option maxRecDepth 100000
set_option maxHeartbeats 8000000
structure SET where
 bk:BK
 fl:List ND
 mask:UInt32
 cur:Int
abbrev SET.c(s:SET):List MV:=s.bk.c++[.lst 5 (s.fl.map ND.c) false,.int .u32 (s.mask.toNat:Int),.int .i64 s.cur]
structure Fit (s:SET):Prop where
 ok:kK s.bk=true
 nc:s.bk.cards.length≤60
 nd:s.bk.dead.length≤60
 ng:s.bk.gr.length≤1000000
 nm:∀g,g∈s.bk.gr→g.mem.length≤1000000
 fl:b9 s.fl=0
 mok:s.mask.toNat≤511
theorem Gp(s:SET):aA Tryz.prog 9 [.agg s.c] St.none (fun r _=>∃b,r=.bool b∧(b=true→Fit s)):=by
 refine(aA.body 23 [.tmp 2] Tryz.func9 rfl rfl rfl rfl ?_)
 have hg:=KR s.bk
 have hp:=AB s.fl false
 have hm:=Ay s.mask
 obtain⟨kb,hk⟩:∃kb,kK s.bk=kb:=⟨_,rfl⟩
 obtain⟨pe,hpe⟩:∃pe,b9 s.fl=pe:=⟨_,rfl⟩
 rw[hpe] at hp
 obtain⟨mb,hmb⟩:∃mb,decide (s.mask.toNat≤511)=mb:=⟨_,rfl⟩
 rw[hmb] at hm
 cases kb
 ·repeat' (first|((refine iB hg ?_;rintro _ ⟨gb,rfl,hgb⟩;cases gb))|(refine aL (hk ▸ iK s.bk (by have:=(hgb rfl).1;omega) (by have:=(hgb rfl).2.1;omega) (hgb rfl).2.2.1 (hgb rfl).2.2.2) ?_)|(refine aL hp ?_)|(refine aL hm ?_)|(with_reducible first|(refine wN fun _ hnl=>?_;revert hnl;(repeat refine wS fun _ _=>?_);intro hnl)|refine wE ?_|(refine wK ?_ ?_<;>intro h)|(refine wB ?_ ?_<;>intro h<;>simp only[h]))|simp(maxSteps:=4000000) (disch:=first|exact ddL|fail) only[go_sem,simprocAttr,List.map_cons,List.map_nil])
  all_goals exact⟨_,rfl,fun h=>by cases h⟩
 ·by_cases h0:pe=0
  ·cases mb
   ·repeat' (first|((refine iB hg ?_;rintro _ ⟨gb,rfl,hgb⟩;cases gb))|(refine aL (hk ▸ iK s.bk (by have:=(hgb rfl).1;omega) (by have:=(hgb rfl).2.1;omega) (hgb rfl).2.2.1 (hgb rfl).2.2.2) ?_)|(refine aL hp ?_)|(refine aL hm ?_)|(with_reducible first|(refine wN fun _ hnl=>?_;revert hnl;(repeat refine wS fun _ _=>?_);intro hnl)|refine wE ?_|(refine wK ?_ ?_<;>intro h)|(refine wB ?_ ?_<;>intro h<;>simp only[h]))|simp(maxSteps:=4000000) (disch:=first|exact ddL|fail) only[go_sem,simprocAttr,h0,List.map_cons,List.map_nil])
    all_goals exact⟨_,rfl,fun h=>by cases h⟩
   ·subst h0
    repeat' (first|((refine iB hg ?_;rintro _ ⟨gb,rfl,hgb⟩;cases gb))|(refine aL (hk ▸ iK s.bk (by have:=(hgb rfl).1;omega) (by have:=(hgb rfl).2.1;omega) (hgb rfl).2.2.1 (hgb rfl).2.2.2) ?_)|(refine aL hp ?_)|(refine aL hm ?_)|(with_reducible first|(refine wN fun _ hnl=>?_;revert hnl;(repeat refine wS fun _ _=>?_);intro hnl)|refine wE ?_|(refine wK ?_ ?_<;>intro h)|(refine wB ?_ ?_<;>intro h<;>simp only[h]))|simp(maxSteps:=4000000) (disch:=first|exact ddL|fail) only[go_sem,simprocAttr,List.map_cons,List.map_nil])
    all_goals first|exact⟨_,rfl,fun _=>⟨hk,(hgb rfl).1,(hgb rfl).2.1,(hgb rfl).2.2.1,(hgb rfl).2.2.2,hpe,of_decide_eq_true hmb⟩⟩|exact⟨_,rfl,fun h=>by cases h⟩
  ·repeat' (first|((refine iB hg ?_;rintro _ ⟨gb,rfl,hgb⟩;cases gb))|(refine aL (hk ▸ iK s.bk (by have:=(hgb rfl).1;omega) (by have:=(hgb rfl).2.1;omega) (hgb rfl).2.2.1 (hgb rfl).2.2.2) ?_)|(refine aL hp ?_)|(refine aL hm ?_)|(with_reducible first|(refine wN fun _ hnl=>?_;revert hnl;(repeat refine wS fun _ _=>?_);intro hnl)|refine wE ?_|(refine wK ?_ ?_<;>intro h)|(refine wB ?_ ?_<;>intro h<;>simp only[h]))|simp(maxSteps:=4000000) (disch:=first|exact ddL|fail) only[go_sem,simprocAttr,h0,List.map_cons,List.map_nil])
   all_goals exact⟨_,rfl,fun h=>by cases h⟩
end

section
set_option maxRecDepth 100000
set_option maxHeartbeats 8000000
def fH(f p:F8)(L:List Nat):F8:=L.foldl (fun g i=>g.set i (p.get i)) f
def FA(c:CA)(p:PA):CA:=⟨c.id,if c.ver<big then c.ver+1 else c.ver,if bit p.mask.toNat 8=true then p.lab else c.lab,fH c.f p.f (bI p.mask.toNat)⟩
theorem Ci(c:CA)(p:PA)(h0:0≤c.ver):aA Tryz.prog 145 [.agg c.c,.agg p.c] St.none (fun r _=>r=.agg (FA c p).c):=by
 refine(aA.body 37 [.cell 4 42] Tryz.func145 rfl rfl rfl rfl ?_)
 have hml:=oV p.mask
 have hfl:=pX p.mask
 have hbl:=qJ p.mask.toNat
 obtain⟨ml,hm8⟩:∃b,bit p.mask.toNat 8=b:=⟨_,rfl⟩
 rw[hm8] at hml
 have hlab:(FA c p).c=.int .i64 c.id::.int .i64 (if c.ver<1099511627776 then c.ver+1 else c.ver)::.int .u32 (((if ml=true then p.lab else c.lab:UInt32).toNat:Nat):Int)::fc (fH c.f p.f (bI p.mask.toNat)):=by rw[←hm8];rfl
 rw[hlab]
 clear hm8 hlab
 have hlt:∀i,i∈bI p.mask.toNat→i<8:=fun i=>s6
 obtain⟨L,hL⟩:∃L,bI p.mask.toNat=L:=⟨_,rfl⟩
 rw[hL] at hfl hbl hlt ⊢
 have hll:(cZ L).length=L.length:=List.length_map _
 by_cases hv:c.ver<1099511627776<;>cases ml
 all_goals simp only[hv,Bool.false_eq_true,if_false,if_true]
 ·skip
  repeat' (first|(with_reducible first|refine up hml ?_|refine up hfl ?_)|(with_reducible first|(refine wT ?_;(first|((fail_if_success (have:=nl1));refine wN fun nl1 hnl=>?_)|((fail_if_success (have:=nl2));refine wN fun nl2 hnl=>?_)|((fail_if_success (have:=nl3));refine wN fun nl3 hnl=>?_)|refine wN fun _ hnl=>?_);revert hnl;(repeat refine wS fun _ _=>?_);intro hnl)|refine wE ?_|(refine wK ?_ ?_<;>intro h)|(refine wB ?_ ?_<;>intro h<;>simp only[h]))|simp(maxSteps:=4000000) (disch:=first|exact ddL|fail) only[go_sem,simprocAttr,Tryz.f145,FXs,hll,hv])
  refine aJ (α:=Nat) (fun i=>⟨37,[(24,.int .i64 (i:Int)),(23,.int .i64 (L.length:Int)),(22,.lst 1 (cZ L) false),(4,.ptr nl3 0 0),(3,.ptr nl2 0 0),(2,.ptr nl1 0 0)],[]⟩)
   (fun i=>((St.none.set nl1 (.row 42 27 [.int .i64 c.id::.int .i64 (c.ver+1)::.int .u32 (c.lab.toNat:Int)::fc (fH c.f p.f (L.take i))])).set nl2 (.row 77 26 [p.c])).set nl3 (.row 42 27 [ca0.c])) (fun i=>i≤L.length) (fun i=>L.length - i) (.of (.less ?_ (St.le_refl _)) ⟨0,rfl,rfl,Nat.zero_le _⟩) ?_
  ·simp(maxSteps:=4000000) (disch:=first|exact ddL|fail) only[go_sem,simprocAttr,aC,aB]
   all_goals first|rfl|(simp;done)
  ·intro i hi
   have hi:i≤L.length:=hi
   by_cases hlt':i<L.length
   ·obtain⟨k,hk⟩:=bO L hlt'
    have hat:(cZ L).getD i []=[.int .i64 (k:Int)]:=by rw[List.getD_eq_getElem?_getD,List.getElem?_map,hk];rfl
    have hk8:=hlt k (dS hk)
    have hsucc:fH c.f p.f (L.take (i+1))=(fH c.f p.f (L.take i)).set k (p.f.get k):=by rw[bB hk,fH,List.foldl_append];rfl
    obtain⟨g,hg⟩:∃g,fH c.f p.f (L.take i)=g:=⟨_,rfl⟩
    rw[hg] at hsucc ⊢
    repeat' (first|(with_reducible first|(refine wT ?_;(first|((fail_if_success (have:=nl1));refine wN fun nl1 hnl=>?_)|((fail_if_success (have:=nl2));refine wN fun nl2 hnl=>?_)|((fail_if_success (have:=nl3));refine wN fun nl3 hnl=>?_)|refine wN fun _ hnl=>?_);revert hnl;(repeat refine wS fun _ _=>?_);intro hnl)|refine wE ?_|(refine wK ?_ ?_<;>intro h)|(refine wB ?_ ?_<;>intro h<;>simp only[h]))|simp(maxSteps:=4000000) (disch:=first|exact ddL|fail) only[go_sem,simprocAttr,FXs,hat,hll])
    all_goals (try (exfalso;omega))
    all_goals
     refine .of (.less ?_ (St.le_refl _)) ⟨i+1,rfl,by rw[hsucc];first|rfl|skip,(by omega:i+1≤L.length),by omega⟩
     simp(maxSteps:=4000000) (disch:=first|exact ddL|fail) only[go_sem,simprocAttr,aC,aB]
     all_goals first|rfl|(simp;done)
   ·have:i=L.length:=by omega
    subst this
    rw[List.take_length]
    repeat' (first|(with_reducible first|(refine wT ?_;(first|((fail_if_success (have:=nl1));refine wN fun nl1 hnl=>?_)|((fail_if_success (have:=nl2));refine wN fun nl2 hnl=>?_)|((fail_if_success (have:=nl3));refine wN fun nl3 hnl=>?_)|refine wN fun _ hnl=>?_);revert hnl;(repeat refine wS fun _ _=>?_);intro hnl)|refine wE ?_|(refine wK ?_ ?_<;>intro h)|(refine wB ?_ ?_<;>intro h<;>simp only[h]))|simp(maxSteps:=4000000) (disch:=first|exact ddL|fail) only[go_sem,simprocAttr,FXs])
    all_goals first|exact⟨_,St.le_refl _,rfl⟩|exact⟨_,St.le_refl _⟩|rfl
 ·skip
  repeat' (first|(with_reducible first|refine up hml ?_|refine up hfl ?_)|(with_reducible first|(refine wT ?_;(first|((fail_if_success (have:=nl1));refine wN fun nl1 hnl=>?_)|((fail_if_success (have:=nl2));refine wN fun nl2 hnl=>?_)|((fail_if_success (have:=nl3));refine wN fun nl3 hnl=>?_)|refine wN fun _ hnl=>?_);revert hnl;(repeat refine wS fun _ _=>?_);intro hnl)|refine wE ?_|(refine wK ?_ ?_<;>intro h)|(refine wB ?_ ?_<;>intro h<;>simp only[h]))|simp(maxSteps:=4000000) (disch:=first|exact ddL|fail) only[go_sem,simprocAttr,Tryz.f145,FXs,hll,hv])
  refine aJ (α:=Nat) (fun i=>⟨37,[(24,.int .i64 (i:Int)),(23,.int .i64 (L.length:Int)),(22,.lst 1 (cZ L) false),(4,.ptr nl3 0 0),(3,.ptr nl2 0 0),(2,.ptr nl1 0 0)],[]⟩)
   (fun i=>((St.none.set nl1 (.row 42 27 [.int .i64 c.id::.int .i64 (c.ver+1)::.int .u32 (p.lab.toNat:Int)::fc (fH c.f p.f (L.take i))])).set nl2 (.row 77 26 [p.c])).set nl3 (.row 42 27 [ca0.c])) (fun i=>i≤L.length) (fun i=>L.length - i) (.of (.less ?_ (St.le_refl _)) ⟨0,rfl,rfl,Nat.zero_le _⟩) ?_
  ·simp(maxSteps:=4000000) (disch:=first|exact ddL|fail) only[go_sem,simprocAttr,aC,aB]
   all_goals first|rfl|(simp;done)
  ·intro i hi
   have hi:i≤L.length:=hi
   by_cases hlt':i<L.length
   ·obtain⟨k,hk⟩:=bO L hlt'
    have hat:(cZ L).getD i []=[.int .i64 (k:Int)]:=by rw[List.getD_eq_getElem?_getD,List.getElem?_map,hk];rfl
    have hk8:=hlt k (dS hk)
    have hsucc:fH c.f p.f (L.take (i+1))=(fH c.f p.f (L.take i)).set k (p.f.get k):=by rw[bB hk,fH,List.foldl_append];rfl
    obtain⟨g,hg⟩:∃g,fH c.f p.f (L.take i)=g:=⟨_,rfl⟩
    rw[hg] at hsucc ⊢
    repeat' (first|(with_reducible first|(refine wT ?_;(first|((fail_if_success (have:=nl1));refine wN fun nl1 hnl=>?_)|((fail_if_success (have:=nl2));refine wN fun nl2 hnl=>?_)|((fail_if_success (have:=nl3));refine wN fun nl3 hnl=>?_)|refine wN fun _ hnl=>?_);revert hnl;(repeat refine wS fun _ _=>?_);intro hnl)|refine wE ?_|(refine wK ?_ ?_<;>intro h)|(refine wB ?_ ?_<;>intro h<;>simp only[h]))|simp(maxSteps:=4000000) (disch:=first|exact ddL|fail) only[go_sem,simprocAttr,FXs,hat,hll])
    all_goals (try (exfalso;omega))
    all_goals
     refine .of (.less ?_ (St.le_refl _)) ⟨i+1,rfl,by rw[hsucc];first|rfl|skip,(by omega:i+1≤L.length),by omega⟩
     simp(maxSteps:=4000000) (disch:=first|exact ddL|fail) only[go_sem,simprocAttr,aC,aB]
     all_goals first|rfl|(simp;done)
   ·have:i=L.length:=by omega
    subst this
    rw[List.take_length]
    repeat' (first|(with_reducible first|(refine wT ?_;(first|((fail_if_success (have:=nl1));refine wN fun nl1 hnl=>?_)|((fail_if_success (have:=nl2));refine wN fun nl2 hnl=>?_)|((fail_if_success (have:=nl3));refine wN fun nl3 hnl=>?_)|refine wN fun _ hnl=>?_);revert hnl;(repeat refine wS fun _ _=>?_);intro hnl)|refine wE ?_|(refine wK ?_ ?_<;>intro h)|(refine wB ?_ ?_<;>intro h<;>simp only[h]))|simp(maxSteps:=4000000) (disch:=first|exact ddL|fail) only[go_sem,simprocAttr,FXs])
    all_goals first|exact⟨_,St.le_refl _,rfl⟩|exact⟨_,St.le_refl _⟩|rfl
 ·skip
  repeat' (first|(with_reducible first|refine up hml ?_|refine up hfl ?_)|(with_reducible first|(refine wT ?_;(first|((fail_if_success (have:=nl1));refine wN fun nl1 hnl=>?_)|((fail_if_success (have:=nl2));refine wN fun nl2 hnl=>?_)|((fail_if_success (have:=nl3));refine wN fun nl3 hnl=>?_)|refine wN fun _ hnl=>?_);revert hnl;(repeat refine wS fun _ _=>?_);intro hnl)|refine wE ?_|(refine wK ?_ ?_<;>intro h)|(refine wB ?_ ?_<;>intro h<;>simp only[h]))|simp(maxSteps:=4000000) (disch:=first|exact ddL|fail) only[go_sem,simprocAttr,Tryz.f145,FXs,hll,hv])
  refine aJ (α:=Nat) (fun i=>⟨37,[(24,.int .i64 (i:Int)),(23,.int .i64 (L.length:Int)),(22,.lst 1 (cZ L) false),(4,.ptr nl3 0 0),(3,.ptr nl2 0 0),(2,.ptr nl1 0 0)],[]⟩)
   (fun i=>((St.none.set nl1 (.row 42 27 [.int .i64 c.id::.int .i64 c.ver::.int .u32 (c.lab.toNat:Int)::fc (fH c.f p.f (L.take i))])).set nl2 (.row 77 26 [p.c])).set nl3 (.row 42 27 [ca0.c])) (fun i=>i≤L.length) (fun i=>L.length - i) (.of (.less ?_ (St.le_refl _)) ⟨0,rfl,rfl,Nat.zero_le _⟩) ?_
  ·simp(maxSteps:=4000000) (disch:=first|exact ddL|fail) only[go_sem,simprocAttr,aC,aB]
   all_goals first|rfl|(simp;done)
  ·intro i hi
   have hi:i≤L.length:=hi
   by_cases hlt':i<L.length
   ·obtain⟨k,hk⟩:=bO L hlt'
    have hat:(cZ L).getD i []=[.int .i64 (k:Int)]:=by rw[List.getD_eq_getElem?_getD,List.getElem?_map,hk];rfl
    have hk8:=hlt k (dS hk)
    have hsucc:fH c.f p.f (L.take (i+1))=(fH c.f p.f (L.take i)).set k (p.f.get k):=by rw[bB hk,fH,List.foldl_append];rfl
    obtain⟨g,hg⟩:∃g,fH c.f p.f (L.take i)=g:=⟨_,rfl⟩
    rw[hg] at hsucc ⊢
    repeat' (first|(with_reducible first|(refine wT ?_;(first|((fail_if_success (have:=nl1));refine wN fun nl1 hnl=>?_)|((fail_if_success (have:=nl2));refine wN fun nl2 hnl=>?_)|((fail_if_success (have:=nl3));refine wN fun nl3 hnl=>?_)|refine wN fun _ hnl=>?_);revert hnl;(repeat refine wS fun _ _=>?_);intro hnl)|refine wE ?_|(refine wK ?_ ?_<;>intro h)|(refine wB ?_ ?_<;>intro h<;>simp only[h]))|simp(maxSteps:=4000000) (disch:=first|exact ddL|fail) only[go_sem,simprocAttr,FXs,hat,hll])
    all_goals (try (exfalso;omega))
    all_goals
     refine .of (.less ?_ (St.le_refl _)) ⟨i+1,rfl,by rw[hsucc];first|rfl|skip,(by omega:i+1≤L.length),by omega⟩
     simp(maxSteps:=4000000) (disch:=first|exact ddL|fail) only[go_sem,simprocAttr,aC,aB]
     all_goals first|rfl|(simp;done)
   ·have:i=L.length:=by omega
    subst this
    rw[List.take_length]
    repeat' (first|(with_reducible first|(refine wT ?_;(first|((fail_if_success (have:=nl1));refine wN fun nl1 hnl=>?_)|((fail_if_success (have:=nl2));refine wN fun nl2 hnl=>?_)|((fail_if_success (have:=nl3));refine wN fun nl3 hnl=>?_)|refine wN fun _ hnl=>?_);revert hnl;(repeat refine wS fun _ _=>?_);intro hnl)|refine wE ?_|(refine wK ?_ ?_<;>intro h)|(refine wB ?_ ?_<;>intro h<;>simp only[h]))|simp(maxSteps:=4000000) (disch:=first|exact ddL|fail) only[go_sem,simprocAttr,FXs])
    all_goals first|exact⟨_,St.le_refl _,rfl⟩|exact⟨_,St.le_refl _⟩|rfl
 ·skip
  repeat' (first|(with_reducible first|refine up hml ?_|refine up hfl ?_)|(with_reducible first|(refine wT ?_;(first|((fail_if_success (have:=nl1));refine wN fun nl1 hnl=>?_)|((fail_if_success (have:=nl2));refine wN fun nl2 hnl=>?_)|((fail_if_success (have:=nl3));refine wN fun nl3 hnl=>?_)|refine wN fun _ hnl=>?_);revert hnl;(repeat refine wS fun _ _=>?_);intro hnl)|refine wE ?_|(refine wK ?_ ?_<;>intro h)|(refine wB ?_ ?_<;>intro h<;>simp only[h]))|simp(maxSteps:=4000000) (disch:=first|exact ddL|fail) only[go_sem,simprocAttr,Tryz.f145,FXs,hll,hv])
  refine aJ (α:=Nat) (fun i=>⟨37,[(24,.int .i64 (i:Int)),(23,.int .i64 (L.length:Int)),(22,.lst 1 (cZ L) false),(4,.ptr nl3 0 0),(3,.ptr nl2 0 0),(2,.ptr nl1 0 0)],[]⟩)
   (fun i=>((St.none.set nl1 (.row 42 27 [.int .i64 c.id::.int .i64 c.ver::.int .u32 (p.lab.toNat:Int)::fc (fH c.f p.f (L.take i))])).set nl2 (.row 77 26 [p.c])).set nl3 (.row 42 27 [ca0.c])) (fun i=>i≤L.length) (fun i=>L.length - i) (.of (.less ?_ (St.le_refl _)) ⟨0,rfl,rfl,Nat.zero_le _⟩) ?_
  ·simp(maxSteps:=4000000) (disch:=first|exact ddL|fail) only[go_sem,simprocAttr,aC,aB]
   all_goals first|rfl|(simp;done)
  ·intro i hi
   have hi:i≤L.length:=hi
   by_cases hlt':i<L.length
   ·obtain⟨k,hk⟩:=bO L hlt'
    have hat:(cZ L).getD i []=[.int .i64 (k:Int)]:=by rw[List.getD_eq_getElem?_getD,List.getElem?_map,hk];rfl
    have hk8:=hlt k (dS hk)
    have hsucc:fH c.f p.f (L.take (i+1))=(fH c.f p.f (L.take i)).set k (p.f.get k):=by rw[bB hk,fH,List.foldl_append];rfl
    obtain⟨g,hg⟩:∃g,fH c.f p.f (L.take i)=g:=⟨_,rfl⟩
    rw[hg] at hsucc ⊢
    repeat' (first|(with_reducible first|(refine wT ?_;(first|((fail_if_success (have:=nl1));refine wN fun nl1 hnl=>?_)|((fail_if_success (have:=nl2));refine wN fun nl2 hnl=>?_)|((fail_if_success (have:=nl3));refine wN fun nl3 hnl=>?_)|refine wN fun _ hnl=>?_);revert hnl;(repeat refine wS fun _ _=>?_);intro hnl)|refine wE ?_|(refine wK ?_ ?_<;>intro h)|(refine wB ?_ ?_<;>intro h<;>simp only[h]))|simp(maxSteps:=4000000) (disch:=first|exact ddL|fail) only[go_sem,simprocAttr,FXs,hat,hll])
    all_goals (try (exfalso;omega))
    all_goals
     refine .of (.less ?_ (St.le_refl _)) ⟨i+1,rfl,by rw[hsucc];first|rfl|skip,(by omega:i+1≤L.length),by omega⟩
     simp(maxSteps:=4000000) (disch:=first|exact ddL|fail) only[go_sem,simprocAttr,aC,aB]
     all_goals first|rfl|(simp;done)
   ·have:i=L.length:=by omega
    subst this
    rw[List.take_length]
    repeat' (first|(with_reducible first|(refine wT ?_;(first|((fail_if_success (have:=nl1));refine wN fun nl1 hnl=>?_)|((fail_if_success (have:=nl2));refine wN fun nl2 hnl=>?_)|((fail_if_success (have:=nl3));refine wN fun nl3 hnl=>?_)|refine wN fun _ hnl=>?_);revert hnl;(repeat refine wS fun _ _=>?_);intro hnl)|refine wE ?_|(refine wK ?_ ?_<;>intro h)|(refine wB ?_ ?_<;>intro h<;>simp only[h]))|simp(maxSteps:=4000000) (disch:=first|exact ddL|fail) only[go_sem,simprocAttr,FXs])
    all_goals first|exact⟨_,St.le_refl _,rfl⟩|exact⟨_,St.le_refl _⟩|rfl
end

section
set_option maxRecDepth 100000
set_option maxHeartbeats 8000000
def cR(id:Int)(p:PA):CA:=FA ⟨id,0,0,f80⟩ p
theorem Ce(id:Int)(p:PA):aA Tryz.prog 144 [.int .i64 id,.agg p.c] St.none (fun r _=>r=.agg (cR id p).c):=by
 refine(aA.body 9 [.cell 4 42] Tryz.func144 rfl rfl rfl rfl ?_)
 have h:=Ci ⟨id,0,0,f80⟩ p (Int.le_refl 0)
 unfold cR
 obtain⟨m,hm⟩:∃m,FA ⟨id,0,0,f80⟩ p=m:=⟨_,rfl⟩
 rw[hm] at h ⊢
 repeat' (first|(refine aL h ?_)|(with_reducible first|(refine wN fun _ hnl=>?_;revert hnl;(repeat refine wS fun _ _=>?_);intro hnl)|refine wE ?_|(refine wK ?_ ?_<;>intro h)|(refine wB ?_ ?_<;>intro h<;>simp only[h]))|simp(maxSteps:=4000000) (disch:=first|exact ddL|fail) only[go_sem,simprocAttr,Tryz.f144,FXs])
end
end Go.Proofs.YtaojijkdamfbnaaGreatDoor
