/- Parts of the proof, joined; conditions: those that its theorems name. -/
import Derived.Test.YtaojijkdamfbnaaGreatDoorMdze
import Derived.Test.YtaojijkdamfbnaaGreatDoorMdzf
set_option linter.unusedVariables false
set_option linter.unusedSimpArgs false
set_option maxHeartbeats 4000000
namespace Go.Proofs.YtaojijkdamfbnaaGreatDoor
section
set_option maxRecDepth 100000
set_option maxHeartbeats 8000000
theorem aA.JN{P:Program}{g:FuncId}{ms:List MV}{σ:St}{X:MV}{Q:St→Prop}(h:aA P g ms σ fun v σ'=>∃τ σv:St,Q τ∧σv.le σ'∧τ.le σ'∧(∀k o,τ k=some o→σv k=none)∧View σv v X):aA P g ms σ fun v σ'=>v=X∧Q σ' :=
 aA.ghost (h.mono fun v σ' ⟨τ,σv,h0,h1,h2,h3,h4⟩=>⟨X,τ,bD.freeze σv h1 h2 h3 (fun p hp=>by
  simp at hp
  subst hp
  simpa[b9] using h4),rfl,h0⟩)
noncomputable abbrev bfS(m l q b:Nat)(B:BK)(f:Nat)(fl:List ND)(d:Bool):St:=(bkS m l q b B []).set f (flD fl d)
theorem Nf{m l q b f pb pf:Nat}{B:BK}{fl:List ND}(d0:Bool){d:Bool}{τ S:St}(DI:Kh m l q b f pb pf)(hτ:(alI m l q b B [] fl f pb pf d).le τ):(bfS m l q b B f fl d).le ((alI m l q b B [] fl f pb pf d0).iR τ S):=by
 obtain⟨⟨f1,f2,f3,f4⟩,⟨p1,p2,p3,p4,p5⟩,⟨r1,r2,r3,r4,r5,r6⟩⟩:=DI
 intro k o hk
 have hd:k=f∨k=b∨k=q∨k=l∨k=m:=by
  rcases gE hk with⟨e,_⟩|⟨_,h⟩
  ·exact .inl e
  rcases gE h with⟨e,_⟩|⟨_,h⟩
  ·exact .inr (.inl e)
  rcases gE h with⟨e,_⟩|⟨_,h⟩
  ·exact .inr (.inr (.inl e))
  rcases gE h with⟨e,_⟩|⟨_,h⟩
  ·exact .inr (.inr (.inr (.inl e)))
  rcases gE h with⟨e,_⟩|⟨_,h⟩
  ·exact .inr (.inr (.inr (.inr e)))
  ·cases h
 have k1:k≠pb:=fun e=>by
  subst e
  rcases hd with e|e|e|e|e
  ·exact p5 e
  ·exact p4 e
  ·exact p3 e
  ·exact p2 e
  ·exact p1 e
 have k2:k≠pf:=fun e=>by
  subst e
  rcases hd with e|e|e|e|e
  ·exact r5 e
  ·exact r4 e
  ·exact r3 e
  ·exact r2 e
  ·exact r1 e
 have h1:alI m l q b B [] fl f pb pf d k=some o:=(aP _ _ _ _ k2).trans ((aP _ _ _ _ k1).trans hk)
 have h2:alI m l q b B [] fl f pb pf d0 k≠none:=by
  have:bfS m l q b B f fl d k≠none:=by rw[hk];exact fun e=>by cases e
  simp only[oE] at this ⊢
  exact .inr (.inr this)
 unfold St.iR
 rw[if_pos (Option.isSome_iff_ne_none.2 h2)]
 exact hτ k o h1
theorem Io{σi τ σ:St}{k:Nat}{o:aX}(hk:σ k=some o)(h:σi k=none):σi.iR τ σ k=some o:=by
 unfold St.iR
 rw[h]
 exact hk
abbrev inS(n1 q j:Nat)(R ex:List (List MV)):St:=(St.none.set n1 (.row 46 1 [[.vec 1 q 0 j]])).set q (.row 3 1 (R++ex))
abbrev idX(c:CA):List MV:=[.int .i64 c.id]
theorem DT{B:BK}(hb:BkR B)(h3:B.gr.length≤1000000)(h4:∀g,g∈B.gr→g.mem.length≤1000000){m l q b f:Nat}(D:nA m l q b)(hf:f≠m∧f≠l∧f≠q∧f≠b){fl:List ND}(hp:bX fl=0)(d:Bool) :
  aA Tryz.prog 15 [.ptr b 0 0,.ptr f 0 0] (bfS m l q b B f fl d) (fun r σ'=>r=.lst 1 ((shC B fl).map idX) false∧σ'=bfS m l q b B f fl (d || decide (0<B.cards.length))):=by
 obtain⟨d',hd'⟩:∃d',(d || decide (0<B.cards.length))=d':=⟨_,rfl⟩
 rw[hd']
 refine aA.JN (Q:=fun σ'=>σ'=bfS m l q b B f fl d') (aA.body 17 [.tmp 4] Tryz.func15 rfl rfl rfl rfl ?_)
 obtain⟨f1,f2,f3,f4⟩:=hf
 have hal:=Hd b f
 have hseq:=fun {pb pf:Nat} (DI:Kh m l q b f pb pf)=>He hb h3 h4 D DI [] hp d
 obtain⟨X,hX⟩:∃X,shC B fl=X:=⟨_,rfl⟩
 have hXl:X.length≤1000000:=by rw[←hX];exact(tX hb fl).2.2
 simp only[hX,hd'] at hseq ⊢
 repeat' (first|(refine uT hal ?_;(intro pb pf hpb hpf hne;have hpb1:=hpb;have hpf1:=hpf;simp only[aY] at hpb1 hpf1))|(with_reducible first|(refine wT ?_;(first|((fail_if_success (have:=nl1));refine wN fun nl1 hnl=>?_)|((fail_if_success (have:=nl2));refine wN fun nl2 hnl=>?_)|((fail_if_success (have:=nl3));refine wN fun nl3 hnl=>?_)|((fail_if_success (have:=nl4));refine wN fun nl4 hnl=>?_)|refine wN fun _ hnl=>?_);revert hnl;(repeat refine wS fun _ _=>?_);intro hnl)|refine wE ?_|(refine wK ?_ ?_<;>intro h)|(refine wB ?_ ?_<;>intro h<;>simp only[h]))|simp(maxSteps:=4000000) (disch:=first|exact ddL|fail) only[go_sem,simprocAttr,Tryz.f15])
 obtain⟨b1,b4,b5,b6,b7,b8,-⟩:=hpb1
 obtain⟨c1,c4,c5,c6,c7,c8,-⟩:=hpf1
 have g1:nl1≠f:=by assumption
 have ha:∀{k:Nat},k≠m→k≠l→k≠q→k≠b→bkS m l q b B [] k=none:=fun h1 h2 h3 h4=>by simp only[aY];exact⟨h4,h3,h2,h1,rfl⟩
 have m1:bkS m l q b B [] nl1=none:=ha (by assumption) (by assumption) (by assumption) (by assumption)
 have hxl:(cdX X).length=X.length:=List.length_map _
 have aI:∀k,alI m l q b B [] fl f pb pf d k=(if k=pf then some (.row 36 1 [[.ptr f 0 0]]) else if k=pb then some (.row 33 1 [[.ptr b 0 0]]) else if k=f then some (flD fl d) else bkS m l q b B [] k):=fun k=>rfl
 have DI:Kh m l q b f pb pf:=⟨⟨f1,f2,f3,f4⟩,⟨b8,b7,b6,b5,b4⟩,⟨c8,c7,c6,c5,c4,hne⟩⟩
 refine fA (tD (gf:=95) (xs:=cdX X) rfl (σi:=alI m l q b B [] fl f pb pf d) (fun j o hj=>?_) (K:=fun τ=>(alI m l q b B [] fl f pb pf d').le τ) (fun τ hτ=>?_) (hseq DI) ?_ rfl rfl
  (fc:=⟨17,[(5,.ptr nl1 0 0)],[]⟩) rfl (α:=Nat × List (List MV))
  (fun j a=>inS nl1 a.1 j ((X.take j).map idX) a.2) (fun j a=>a.1≠nl1) ?_ ?_ ?_)
 ·rw[aI] at hj
  by_cases j1:j=pf
  ·subst j1;rw[if_pos rfl] at hj;rw[aJ];exact hj
  ·rw[if_neg j1] at hj
   rw[aP _ _ _ _ j1]
   by_cases j2:j=pb
   ·subst j2;rw[if_pos rfl] at hj;rw[aJ];exact hj
   ·rw[if_neg j2] at hj
    rw[aP _ _ _ _ j2]
    by_cases j3:j=f
    ·subst j3
     rw[if_pos rfl] at hj
     exact(aP _ _ _ _ (Ne.symm g1)).trans ((aJ _ _ _).trans hj)
    ·rw[if_neg j3] at hj
     exact(aP _ _ _ _ (fun e=>by subst e;rw[m1] at hj;cases hj)).trans ((aP _ _ _ _ j3).trans hj)
 ·exact Mp d' d (fun x hx=>by cases hx) hτ
 ·intro x hx
  obtain⟨y,_,rfl⟩:=List.mem_map.1 hx
  rfl
 ·have aN:∀{k:Nat},k≠pf→k≠pb→k≠f→bkS m l q b B [] k=none→alI m l q b B [] fl f pb pf d k=none:=fun h1 h2 h3 h4=>by rw[aI,if_neg h1,if_neg h2,if_neg h3];exact h4
  have s1:=aN (Ne.symm c1) (Ne.symm b1) g1 m1
  have t1:(((((bkS m l q b B []).set f (flD fl d)).set nl1 (.row 46 1 [[.bC]])).set pb (.row 33 1 [[.ptr b 0 0]])).set pf (.row 36 1 [[.ptr f 0 0]])) nl1=some (.row 46 1 [[.bC]]):=by
   rw[aP _ _ _ _ (Ne.symm c1),aP _ _ _ _ (Ne.symm b1),aJ]
  have k1:((((((bkS m l q b B []).set f (flD fl d)).set nl1 (.row 46 1 [[.bC]])).set pb (.row 33 1 [[.ptr b 0 0]])).set pf (.row 36 1 [[.ptr f 0 0]])).minus (alI m l q b B [] fl f pb pf d)) nl1=some (.row 46 1 [[.bC]]):=by
   unfold St.minus
   rw[s1]
   exact t1
  refine Gh.tZ (b:=nl1) (t:=46) (e:=1) (pre:=[]) (post:=[]) 3 1 k1 fun z hz=>?_
  have z1:z≠nl1:=fun e=>by subst e;rw[k1] at hz;cases hz
  refine .of (.less (l1:=[(5,.ptr nl1 0 0)]) ?_ (σ1:=inS nl1 z 0 [] []) ?_) ⟨rfl,(z,[]),rfl,z1⟩
  ·simp(maxSteps:=4000000) (disch:=first|exact ddL|fail) only[go_sem,simprocAttr,aC,aB]
   all_goals first|rfl|(simp;done)
  ·refine St.uE (St.uE (St.none_le _))
 ·rintro j x ⟨z,xx⟩ hx z1
  simp only at z1 ⊢
  have hjl:j<X.length:=by
   have:=(List.getElem?_eq_some_iff.1 hx).1
   rwa [hxl] at this
  obtain⟨c,hc⟩:=bN X hjl
  have hxe:x=[.agg c.c]:=by
   rw[List.getElem?_map,hc] at hx
   exact(Option.some.inj hx).symm
  subst hxe
  have z1':=Ne.symm z1
  have htk:=bB hc
  have hRl:((X.take j).map idX).length=j:=by rw[List.length_map,List.length_take];omega
  have hsn:(X.take (j+1)).map idX=(X.take j).map idX++[idX c]:=by rw[htk,List.map_append];rfl
  obtain⟨RR,hRR⟩:∃RR,(X.take j).map idX=RR:=⟨_,rfl⟩
  rw[hRR] at hRl hsn ⊢
  have hdr:(RR++xx).drop (j+1)=xx.drop 1:=by rw[←hRl,←List.drop_drop,List.drop_left'];rfl
  have htk':(RR++xx).take j=RR:=by rw[←hRl,List.take_left'];rfl
  change mwp _ _ (FR.mk 17 [(10,.agg c.c),(5,.ptr nl1 0 0)] []) _ _
  refine fB ?_
  repeat' (first|(with_reducible first|(refine wT ?_;(first|((fail_if_success (have:=nl1));refine wN fun nl1 hnl=>?_)|((fail_if_success (have:=nl2));refine wN fun nl2 hnl=>?_)|((fail_if_success (have:=nl3));refine wN fun nl3 hnl=>?_)|((fail_if_success (have:=nl4));refine wN fun nl4 hnl=>?_)|refine wN fun _ hnl=>?_);revert hnl;(repeat refine wS fun _ _=>?_);intro hnl)|refine wE ?_|(refine wK ?_ ?_<;>intro h)|(refine wB ?_ ?_<;>intro h<;>simp only[h]))|simp(maxSteps:=4000000) (disch:=first|exact ddL|fail) only[go_sem,simprocAttr,FXs])
  refine fA (fB ?_)
  repeat' (first|(with_reducible first|(refine wT ?_;(first|((fail_if_success (have:=nl1));refine wN fun nl1 hnl=>?_)|((fail_if_success (have:=nl2));refine wN fun nl2 hnl=>?_)|((fail_if_success (have:=nl3));refine wN fun nl3 hnl=>?_)|((fail_if_success (have:=nl4));refine wN fun nl4 hnl=>?_)|refine wN fun _ hnl=>?_);revert hnl;(repeat refine wS fun _ _=>?_);intro hnl)|refine wE ?_|(refine wK ?_ ?_<;>intro h)|(refine wB ?_ ?_<;>intro h<;>simp only[h]))|simp(maxSteps:=4000000) (disch:=first|exact ddL|fail) only[go_sem,simprocAttr,FXs,htk',hdr,hRl])
  all_goals (try (exfalso;omega))
  all_goals
   have p1:nl4≠nl1:=by assumption
   have p2:nl4≠nl2:=by assumption
   have p3:nl4≠nl3:=by assumption
   clear hseq hal ha hdr htk' hX
  ·have hex:xx=[]:=List.eq_nil_of_length_eq_zero (by omega)
   subst hex
   clear h
   refine .of (bD.less (l1:=[]) (fun p hp=>by cases hp) (σ1:=inS nl1 nl4 (j+1) (RR++[idX c]) []) ?_) ⟨(nl4,[]),by rw[hsn],p1⟩
   clear aI
   exact St.aH (St.aH (St.none_le _) (by simp[St.set, *])) (by simp[St.set, *])
  ·refine .of (bD.less (l1:=[]) (fun p hp=>by cases hp) (σ1:=inS nl1 nl4 (j+1) (RR++[idX c]) (xx.drop 1)) ?_) ⟨(nl4,xx.drop 1),by rw[hsn],p1⟩
   clear h aI
   exact St.aH (St.aH (St.none_le _) (by simp[St.set, *])) (by simp[St.set, *])
 ·rintro⟨z,xx⟩ z1 τ hτ hout
  simp only[hxl,List.take_length] at z1 hout ⊢
  have o1:=hout nl1 _ ((aP _ _ _ _ (Ne.symm z1)).trans (aJ _ _ _))
  have o2:=hout z _ (aJ _ _ _)
  have hle:(((bfS m l q b B f fl d').set nl1 (.row 46 1 [[.vec 1 z 0 X.length]])).set z (.row 3 1 (X.map idX++xx))).le ((alI m l q b B [] fl f pb pf d).iR τ (inS nl1 z X.length (X.map idX) xx)) :=
   St.aH (St.aH (Nf d DI hτ) (Io ((aP _ _ _ _ (Ne.symm z1)).trans (aJ _ _ _)) o1)) (Io (aJ _ _ _) o2)
  refine .of (bD.less (l1:=[(5,.ptr nl1 0 0)]) ?_ hle) ?_
  ·simp(maxSteps:=4000000) (disch:=first|exact ddL|fail) only[go_sem,simprocAttr,aC,aB]
   all_goals first|rfl|(simp;done)
  have o3:=o2
  simp only[aY] at o3
  obtain⟨w1,w2,w3,w4,w5,w6,w7,-⟩:=o3
  have n1:bfS m l q b B f fl d' nl1=none:=by simp only[aY];exact⟨g1,by assumption,by assumption,by assumption,by assumption,rfl⟩
  have n2:bfS m l q b B f fl d' z=none:=by simp only[aY];exact⟨w3,w4,w5,w6,w7,rfl⟩
  show R _
  repeat' (first|(with_reducible first|(refine wT ?_;(first|((fail_if_success (have:=nl1));refine wN fun nl1 hnl=>?_)|((fail_if_success (have:=nl2));refine wN fun nl2 hnl=>?_)|((fail_if_success (have:=nl3));refine wN fun nl3 hnl=>?_)|((fail_if_success (have:=nl4));refine wN fun nl4 hnl=>?_)|refine wN fun _ hnl=>?_);revert hnl;(repeat refine wS fun _ _=>?_);intro hnl)|refine wE ?_|(refine wK ?_ ?_<;>intro h)|(refine wB ?_ ?_<;>intro h<;>simp only[h]))|simp(maxSteps:=4000000) (disch:=first|exact ddL|fail) only[go_sem,simprocAttr])
  refine⟨bfS m l q b B f fl d',St.none.set z (.row 3 1 (X.map idX++xx)),rfl,St.aH (St.none_le _) (aJ _ _ _),fun k o hk=>?_,fun k o hk=>?_,dK (aJ _ _ _) (by rw[List.length_map])⟩
  ·rw[aP _ _ _ _ (fun e=>by subst e;rw[n2] at hk;cases hk),aP _ _ _ _ (fun e=>by subst e;rw[n1] at hk;cases hk)]
   exact hk
  ·rw[aP _ _ _ _ (fun e=>by subst e;rw[n2] at hk;cases hk)]
   rfl
end

section
set_option maxRecDepth 100000
set_option maxHeartbeats 8000000
noncomputable def mF(B:BK)(fl:List ND)(id:Int):CA × Bool:=if (gK B.cards B.dead id).2=0∧gF B.gr fl (gK B.cards B.dead id).1=true then((gK B.cards B.dead id).1,true) else(ca0,false)
theorem FQ{B:BK}{id:Int}(h:(gK B.cards B.dead id).2=0):(gK B.cards B.dead id).1∈B.cards∧(gK B.cards B.dead id).1.id=id:=by
 unfold gK at h ⊢
 cases e:B.cards.find? (fun c=>decide (c.id=id)) with
 | none=>rw[e] at h;simp only at h;split at h<;>cases h
 | some c=>exact⟨List.mem_of_find?_eq_some e,by simpa using List.find?_some e⟩
theorem BO{B:BK}(hb:BkR B)(h3:B.gr.length≤1000000)(h4:∀g,g∈B.gr→g.mem.length≤1000000){m l q b f:Nat}(D:nA m l q b)(hf:f≠m∧f≠l∧f≠q∧f≠b){fl:List ND}(hp:bX fl=0)(d:Bool)(hd:B.dead.length≤1000000)(id:Int) :
  aA Tryz.prog 13 [.ptr b 0 0,.ptr f 0 0,.int .i64 id] (bfS m l q b B f fl d) (fun r σ'=>r=.tup [.agg (mF B fl id).1.c,.bool (mF B fl id).2]∧σ'=bfS m l q b B f fl (d || decide ((gK B.cards B.dead id).2=0))):=by
 have hgt:=BB hd D [] id
 have hgr:=mB B.sq l b B.gr h3 h4 hb.gok id
 obtain⟨f1,f2,f3,f4⟩:=hf
 have D':=D
 obtain⟨d1,d2,d3,d4,d5,d6⟩:=D
 have e1:=Ne.symm d1
 have e2:=Ne.symm d2
 have e3:=Ne.symm d3
 have e4:=Ne.symm d4
 have e5:=Ne.symm d5
 have e6:=Ne.symm d6
 have g1:=Ne.symm f1
 have g2:=Ne.symm f2
 have g3:=Ne.symm f3
 have g4:=Ne.symm f4
 refine aA.less (Q':=fun r σ'=>r=.tup [.agg (mF B fl id).1.c,.bool (mF B fl id).2]∧(bfS m l q b B f fl (d || decide ((gK B.cards B.dead id).2=0))).le σ') (aA.body 29 [.cell 6 42,.tmp 7] Tryz.func13 rfl rfl rfl rfl ?_) fun v σ' ⟨h1,h2⟩=>⟨_,h2,h1,rfl⟩
 have hz:=@FQ B id
 have hbf:bkS m l q b B [] f=none:=by simp only[aY];exact⟨f4,f3,f2,f1,rfl⟩
 obtain⟨g,hg⟩:∃g,gK B.cards B.dead id=g:=⟨_,rfl⟩
 unfold mF
 rw[hg] at hgt hz ⊢
 obtain⟨c,e⟩:=g
 obtain⟨d',hd'⟩:∃d',(d || decide ((c,e).2=0))=d':=⟨_,rfl⟩
 rw[hd']
 simp only at hgt hz hd' ⊢
 by_cases he:e=0
 ·subst he
  obtain rfl:true=d':=by rw[←hd'];simp
  obtain⟨hc,hid⟩:=hz rfl
  have hmt:=qY hp hb.gok (oN hb hc).1 f d
  rw[hid] at hmt
  obtain⟨gg,hgg⟩:∃g:Int,(grB B.gr id:Int)=g:=⟨_,rfl⟩
  rw[hgg] at hmt hgr
  obtain⟨sb,hsb⟩:∃sb,gF B.gr fl c=sb:=⟨_,rfl⟩
  rw[hsb] at hmt ⊢
  obtain⟨DK,hDK,c1,c2⟩:∃DK:cC,PlU (.these [47]) DK∧(∀ms,DK 48 ms=some ⟨[b],fun v=>v=.int .u32 gg,none⟩)∧∀ms,DK 47 ms=some ⟨[f],fun _=>True,some ([flD fl true],fun _=>.bool sb)⟩ :=
   ⟨fnF [(48,⟨[b],fun v=>v=.int .u32 gg,none⟩),(47,⟨[f],fun _=>True,some ([flD fl true],fun _=>.bool sb)⟩)],zO,fun _=>fD,fun _=>sK fD⟩
  cases sb
  ·repeat' (first|(refine gG hgt (fun k o hk=>eZ (by simp only[aY];exact⟨by assumption,by assumption,by assumption,by assumption,by assumption,rfl⟩) k o (eZ hbf k o hk)) ?_)|(refine jW mixed [47] (by decide +kernel) DK hDK ?_)|(refine oW [b] [cB B.sq l (.lst 2 (B.gr.map GR.c) false)] (c1 _) (by simp[St.set, *]) hgr ?_)|(refine mS (c2 _) (by simp[St.set, *]) hmt ?_)|(with_reducible first|(refine wN fun _ hnl=>?_;revert hnl;(repeat refine wS fun _ _=>?_);intro hnl)|refine wE ?_|(refine wK ?_ ?_<;>intro h)|(refine wB ?_ ?_<;>intro h<;>simp only[h]))|simp(maxSteps:=4000000) (disch:=first|decide|assumption|omega|(simp only[wL];omega)) only[go_sem,simprocAttr,FXs])
   exact⟨rfl,fun k o hk=>eZ (by simp only[aY];exact⟨by assumption,by assumption,by assumption,by assumption,by assumption,by assumption,rfl⟩) k o (eZ (by simp only[aY];exact⟨by assumption,by assumption,by assumption,by assumption,by assumption,rfl⟩) k o hk)⟩
  ·repeat' (first|(refine gG hgt (fun k o hk=>eZ (by simp only[aY];exact⟨by assumption,by assumption,by assumption,by assumption,by assumption,rfl⟩) k o (eZ hbf k o hk)) ?_)|(refine jW mixed [47] (by decide +kernel) DK hDK ?_)|(refine oW [b] [cB B.sq l (.lst 2 (B.gr.map GR.c) false)] (c1 _) (by simp[St.set, *]) hgr ?_)|(refine mS (c2 _) (by simp[St.set, *]) hmt ?_)|(with_reducible first|(refine wN fun _ hnl=>?_;revert hnl;(repeat refine wS fun _ _=>?_);intro hnl)|refine wE ?_|(refine wK ?_ ?_<;>intro h)|(refine wB ?_ ?_<;>intro h<;>simp only[h]))|simp(maxSteps:=4000000) (disch:=first|decide|assumption|omega|(simp only[wL];omega)) only[go_sem,simprocAttr,FXs])
   exact(fun k o hk=>eZ (by simp only[aY];exact⟨by assumption,by assumption,by assumption,by assumption,by assumption,by assumption,rfl⟩) k o (eZ (by simp only[aY];exact⟨by assumption,by assumption,by assumption,by assumption,by assumption,rfl⟩) k o hk))
 ·clear hz
  obtain rfl:d=d':=by rw[←hd'];simp[he]
  obtain⟨DK,hDK⟩:∃DK:cC,PlU (.these [47]) DK:=⟨fnF [(48,⟨[b],fun v=>True,none⟩),(47,⟨[f],fun _=>True,some ([flD fl true],fun _=>.bool true)⟩)],zO⟩
  repeat' (first|(refine gG hgt (fun k o hk=>eZ (by simp only[aY];exact⟨by assumption,by assumption,by assumption,by assumption,by assumption,rfl⟩) k o (eZ hbf k o hk)) ?_)|(refine jW mixed [47] (by decide +kernel) DK hDK ?_)|(with_reducible first|(refine wN fun _ hnl=>?_;revert hnl;(repeat refine wS fun _ _=>?_);intro hnl)|refine wE ?_|(refine wK ?_ ?_<;>intro h)|(refine wB ?_ ?_<;>intro h<;>simp only[h]))|simp(maxSteps:=4000000) (disch:=first|decide|assumption|omega|(simp only[wL];omega)) only[go_sem,simprocAttr,FXs,he])
  exact⟨rfl,fun k o hk=>eZ (by simp only[aY];exact⟨by assumption,by assumption,by assumption,by assumption,by assumption,by assumption,rfl⟩) k o (eZ (by simp only[aY];exact⟨by assumption,by assumption,by assumption,by assumption,by assumption,rfl⟩) k o hk)⟩
end

section
set_option maxRecDepth 100000
set_option maxHeartbeats 8000000
structure Ov (m l q b pb pf:Nat):Prop where
 h2:pb≠m∧pb≠l∧pb≠q∧pb≠b
 h3:pf≠m∧pf≠l∧pf≠q∧pf≠b∧pf≠pb
end

section
set_option maxRecDepth 100000
set_option maxHeartbeats 8000000
structure SET where
 bk:BK
 fl:List ND
 mask:UInt32
 cur:Int
abbrev SET.c(s:SET):List MV:=s.bk.c++[.lst 5 (s.fl.map ND.c) false,.int .u32 (s.mask.toNat:Int),.int .i64 s.cur]
structure Fit (s:SET):Prop where
 ok:j6 s.bk=true
 nc:s.bk.cards.length≤60
 nd:s.bk.dead.length≤60
 ng:s.bk.gr.length≤1000000
 nm:∀g,g∈s.bk.gr→g.mem.length≤1000000
 fl:bX s.fl=0
 mok:s.mask.toNat≤511
end
end Go.Proofs.YtaojijkdamfbnaaGreatDoor
