/- Parts of the proof, joined; conditions: those that its theorems name. -/
import Derived.Test.YtojmhmejdihaaaaGreatDoorStzj
set_option linter.unusedVariables false
set_option linter.unusedSimpArgs false
set_option maxHeartbeats 4000000
namespace Go.Proofs.YtojmhmejdihaaaaGreatDoor
section
set_option maxRecDepth 100000
set_option maxHeartbeats 8000000
abbrev cdX(cs:List CA):List (List MV):=cs.map fun c=>[.agg c.c]
noncomputable abbrev alI(m l q b:Nat)(B:BK)(ex:List (List MV))(fl:List ND)(f pb pf:Nat)(d:Bool):St:=(((bkS m l q b B ex).set f (flD fl d)).set pb (.row 43 1 [[.ptr b 0 0]])).set pf (.row 46 1 [[.ptr f 0 0]])
structure Pu (m l q b f pb pf:Nat):Prop where
 h1:f≠m∧f≠l∧f≠q∧f≠b
 h2:pb≠m∧pb≠l∧pb≠q∧pb≠b∧pb≠f
 h3:pf≠m∧pf≠l∧pf≠q∧pf≠b∧pf≠f∧pf≠pb
theorem NL{g1 g2:FuncId}{r1 r2:List Nat}{q1 q2:MV→Prop}{x2:bE × (Nat→MV)}:PlU (.these [g2]) (fnF [(g1,⟨r1,q1,none⟩),(g2,⟨r2,q2,some x2⟩)]):=by
 intro g' ms rd q' x' h
 simp only[fnF] at h
 split at h
 ·cases h
 ·split at h
  ·rename_i e
   subst e
   exact .inr (List.mem_singleton.2 rfl)
  ·cases h
theorem Fc(c:CA):∀m,m∈[MV.agg c.c]→iP m:=fun m hm=>by
 rw[List.mem_singleton] at hm
 subst hm
 refine .flat (.agg fun x hx=>?_)
 simp only[CA.c,List.mem_cons] at hx
 rcases hx with rfl|rfl|rfl|hx
 ·exact .int _ _
 ·exact .int _ _
 ·exact .int _ _
 ·unfold fc at hx
  obtain⟨v,hv,hx⟩:=List.mem_flatten.1 hx
  obtain⟨a,_,rfl⟩:=List.mem_map.1 hv
  simp only[VA.c,List.mem_cons,List.not_mem_nil,or_false] at hx
  rcases hx with rfl|rfl|rfl
  ·exact .int _ _
  ·exact .int _ _
  ·exact .str _
theorem Lu{B:BK}(hb:BkR B)(h3:B.gr.length≤1000000)(h4:∀g,g∈B.gr→g.mem.length≤1000000){m l q b f pb pf:Nat}(D:pU m l q b)(DI:Pu m l q b f pb pf)(ex:List (List MV)){fl:List ND}(hp:bM fl=0)(d:Bool) :
  DH Tryz.prog 197 [.ptr pb 0 0,.ptr pf 0 0] (alI m l q b B ex fl f pb pf d) (cdX (shC B fl)):=by
 refine DH.qL 27 Tryz.func197 rfl rfl rfl rfl fun C hC hspec=>?_
 have hri:=pH hb.cok hb.nx2 (by have:=hb.nc;omega)
 have hcs:=oT B.nx B.sq (.vec 3 q 0 B.dead.length) (.lst 2 (B.gr.map GR.c) false) B.cards D.lm D.bm D.bl hri
 have hgr:=nA B.sq l b B.gr h3 h4 hb.gok
 have hnc:=hb.nc
 have hxl:(cdX (shC B fl)).length=(shC B fl).length:=List.length_map _
 rw[hxl]
 obtain⟨d1,d2,d3,d4,d5,d6⟩:=D
 obtain⟨⟨f1,f2,f3,f4⟩,⟨p1,p2,p3,p4,p5⟩,⟨r1,r2,r3,r4,r5,r6⟩⟩:=DI
 have e1:=Ne.symm d1
 have e2:=Ne.symm d2
 have e3:=Ne.symm d3
 have e4:=Ne.symm d4
 have e5:=Ne.symm d5
 have e6:=Ne.symm d6
 have f1':=Ne.symm f1
 have f2':=Ne.symm f2
 have f3':=Ne.symm f3
 have f4':=Ne.symm f4
 have p1':=Ne.symm p1
 have p2':=Ne.symm p2
 have p3':=Ne.symm p3
 have p4':=Ne.symm p4
 have p5':=Ne.symm p5
 have r1':=Ne.symm r1
 have r2':=Ne.symm r2
 have r3':=Ne.symm r3
 have r4':=Ne.symm r4
 have r5':=Ne.symm r5
 have r6':=Ne.symm r6
 obtain⟨PB,hPB⟩:∃PB,PB=eV B.gr fl:=⟨_,rfl⟩
 refine jR (hJ (kB ?_))
 repeat' (first|(refine bS hcs (St.aL (le2 (by simp[St.set, *]) (by simp[St.set, *])) (by simp[St.set, *])) ?_)|(with_reducible first|(refine wN fun _ hnl=>?_;revert hnl;(repeat refine wS fun _ _=>?_);intro hnl)|refine wE ?_|(refine wK ?_ ?_<;>intro h)|(refine wB ?_ ?_<;>intro h<;>simp only[h]))|simp(maxSteps:=4000000) (disch:=first|exact ddL|fail) only[go_sem,simprocAttr,Tryz.f197])
 refine jR (oD (DG (α:=Nat × Nat × Bool) (fun a=>⟨27,[(0,.fn (.yield C.l) [] []),(9,.int .i64 (a.1:Int)),(8,.int .i64 (B.cards.length:Int)),(7,.lst 27 (B.cards.map CA.c) false),(1,.ptr pb 0 0),(2,.ptr pf 0 0)],[]⟩) (fun a=>alI m l q b B ex fl f pb pf a.2.2) (fun a=>some a.2.1)
   (fun a=>a.1≤B.cards.length∧((B.cards.take a.1).filter PB).length=a.2.1) (fun a=>B.cards.length - a.1) ?_ ?_))
 ·refine .of (.less ?_ (St.le_refl _)) ⟨(0,0,d),rfl,rfl,rfl,Nat.zero_le _,rfl⟩
  simp(maxSteps:=4000000) (disch:=first|exact ddL|fail) only[go_sem,simprocAttr,aC,aB]
  all_goals first|rfl|(simp;done)
 ·rintro⟨i,j,d⟩ ⟨hi,hj⟩
  simp only at hi hj ⊢
  refine hJ (kB ?_)
  repeat' (first|(with_reducible first|(refine wN fun _ hnl=>?_;revert hnl;(repeat refine wS fun _ _=>?_);intro hnl)|refine wE ?_|(refine wK ?_ ?_<;>intro h)|(refine wB ?_ ?_<;>intro h<;>simp only[h]))|simp(maxSteps:=4000000) (disch:=first|exact ddL|fail) only[go_sem,simprocAttr])
  by_cases hlt:i<B.cards.length
  ·obtain⟨x,hx⟩:=bC B.cards hlt
   have hat:=aV (f:=CA.c) hx
   refine jR (hJ (kB ?_))
   repeat' (first|(with_reducible first|(refine wN fun _ hnl=>?_;revert hnl;(repeat refine wS fun _ _=>?_);intro hnl)|refine wE ?_|(refine wK ?_ ?_<;>intro h)|(refine wB ?_ ?_<;>intro h<;>simp only[h]))|simp(maxSteps:=4000000) (disch:=first|exact ddL|fail) only[go_sem,simprocAttr,hat])
   refine jR (hJ (oD (hJ (kB ?_))))
   repeat' (first|(with_reducible first|(refine wN fun _ hnl=>?_;revert hnl;(repeat refine wS fun _ _=>?_);intro hnl)|refine wE ?_|(refine wK ?_ ?_<;>intro h)|(refine wB ?_ ?_<;>intro h<;>simp only[h]))|simp(maxSteps:=4000000) (disch:=first|exact ddL|fail) only[go_sem,simprocAttr,hat,FXs])
   have hmt:=sP hp hb.gok (pX hb (bR hx)).1 f d
   have hgx:=hgr x.id
   obtain⟨g,hg⟩:∃g:Int,(grB B.gr x.id:Int)=g:=⟨_,rfl⟩
   rw[hg] at hmt hgx
   rw[←hPB] at hmt
   have htk:=aO hx
   have hsp:=gX B.cards hx
   obtain⟨sb,hsb⟩:∃sb,PB x=sb:=⟨_,rfl⟩
   rw[hsb] at hmt
   obtain⟨DK,hDK,c1,c2⟩:∃DK:bP,PlU (.these [102]) DK∧(∀ms,DK 103 ms=some ⟨[b],fun v=>v=.int .u32 g,none⟩)∧∀ms,DK 102 ms=some ⟨[f],fun _=>True,some (flD fl true,fun _=>.bool sb)⟩ :=
    ⟨fnF [(103,⟨[b],fun v=>v=.int .u32 g,none⟩),(102,⟨[f],fun _=>True,some (flD fl true,fun _=>.bool sb)⟩)],NL,fun _=>bN,fun _=>dF bN⟩
   refine jR (hJ (F0 mixed [102] DK hDK [_,_,_,_,_,_,_,_,_,_] [_,_] rfl (by decide +kernel) hspec ?_))
   cases sb
   ·repeat' (first|(refine B8 [b] [eW B.sq l (.lst 2 (B.gr.map GR.c) false)] (c1 _) (by simp[St.set, *]) hgx ?_)|(refine rP (c2 _) (by simp[St.set, *]) hmt ?_)|(with_reducible first|(refine wN fun _ hnl=>?_;revert hnl;(repeat refine wS fun _ _=>?_);intro hnl)|refine wE ?_|(refine wK ?_ ?_<;>intro h)|(refine wB ?_ ?_<;>intro h<;>simp only[h]))|simp(maxSteps:=4000000) (disch:=first|exact ddL|fail) only[go_sem,simprocAttr,FXs])
    refine jR (kB ?_)
    repeat' (first|(with_reducible first|(refine wN fun _ hnl=>?_;revert hnl;(repeat refine wS fun _ _=>?_);intro hnl)|refine wE ?_|(refine wK ?_ ?_<;>intro h)|(refine wB ?_ ?_<;>intro h<;>simp only[h]))|simp(maxSteps:=4000000) (disch:=first|exact ddL|fail) only[go_sem,simprocAttr])
    refine jR (kB ?_)
    repeat' (first|(with_reducible first|(refine wN fun _ hnl=>?_;revert hnl;(repeat refine wS fun _ _=>?_);intro hnl)|refine wE ?_|(refine wK ?_ ?_<;>intro h)|(refine wB ?_ ?_<;>intro h<;>simp only[h]))|simp(maxSteps:=4000000) (disch:=first|exact ddL|fail) only[go_sem,simprocAttr])
    refine .of (.less ?_ (mQ (by simp only[aY];exact⟨by assumption,by assumption,by assumption,by assumption,by assumption,by assumption,by assumption,rfl⟩))) ⟨(i+1,j,true),rfl,rfl,rfl,⟨by simp only;omega,?_⟩,by simp only;omega⟩
    ·simp(maxSteps:=4000000) (disch:=first|exact ddL|fail) only[go_sem,simprocAttr,aC,aB]
     all_goals first|rfl|(simp;done)
    ·simp only
     rw[htk,List.filter_append,List.length_append,hj]
     simp[hsb]
   ·repeat' (first|(refine B8 [b] [eW B.sq l (.lst 2 (B.gr.map GR.c) false)] (c1 _) (by simp[St.set, *]) hgx ?_)|(refine rP (c2 _) (by simp[St.set, *]) hmt ?_)|(with_reducible first|(refine wN fun _ hnl=>?_;revert hnl;(repeat refine wS fun _ _=>?_);intro hnl)|refine wE ?_|(refine wK ?_ ?_<;>intro h)|(refine wB ?_ ?_<;>intro h<;>simp only[h]))|simp(maxSteps:=4000000) (disch:=first|exact ddL|fail) only[go_sem,simprocAttr,FXs])
    have hxs:C.xs[j]?=some [.agg x.c]:=by
     rw[hC,List.getElem?_map,shC,←hPB,hsp,List.filter_append,List.getElem?_append_right (by omega),hj,Nat.sub_self,List.filter_cons_of_pos (by simpa using hsb)]
     rfl
    refine DF rfl hxs (Fc x) rfl ?_ ?_
    ·repeat' (first|(with_reducible first|(refine wN fun _ hnl=>?_;revert hnl;(repeat refine wS fun _ _=>?_);intro hnl)|refine wE ?_|(refine wK ?_ ?_<;>intro h)|(refine wB ?_ ?_<;>intro h<;>simp only[h]))|simp(maxSteps:=4000000) (disch:=first|exact ddL|fail) only[go_sem,simprocAttr])
     refine jR (kB ?_)
     repeat' (first|(with_reducible first|(refine wN fun _ hnl=>?_;revert hnl;(repeat refine wS fun _ _=>?_);intro hnl)|refine wE ?_|(refine wK ?_ ?_<;>intro h)|(refine wB ?_ ?_<;>intro h<;>simp only[h]))|simp(maxSteps:=4000000) (disch:=first|exact ddL|fail) only[go_sem,simprocAttr])
     refine jR (kB ?_)
     repeat' (first|(with_reducible first|(refine wN fun _ hnl=>?_;revert hnl;(repeat refine wS fun _ _=>?_);intro hnl)|refine wE ?_|(refine wK ?_ ?_<;>intro h)|(refine wB ?_ ?_<;>intro h<;>simp only[h]))|simp(maxSteps:=4000000) (disch:=first|exact ddL|fail) only[go_sem,simprocAttr])
     refine .of (.less ?_ (mQ (by simp only[aY];exact⟨by assumption,by assumption,by assumption,by assumption,by assumption,by assumption,by assumption,rfl⟩))) ⟨(i+1,j+1,true),rfl,rfl,rfl,⟨by simp only;omega,?_⟩,by simp only;omega⟩
     ·simp(maxSteps:=4000000) (disch:=first|exact ddL|fail) only[go_sem,simprocAttr,aC,aB]
      all_goals first|rfl|(simp;done)
     ·simp only
      rw[htk,List.filter_append,List.length_append,hj]
      simp[hsb]
    ·repeat' (first|(with_reducible first|(refine wN fun _ hnl=>?_;revert hnl;(repeat refine wS fun _ _=>?_);intro hnl)|refine wE ?_|(refine wK ?_ ?_<;>intro h)|(refine wB ?_ ?_<;>intro h<;>simp only[h]))|simp(maxSteps:=4000000) (disch:=first|exact ddL|fail) only[go_sem,simprocAttr])
     refine jR (kB ?_)
     repeat' (first|(with_reducible first|(refine wN fun _ hnl=>?_;revert hnl;(repeat refine wS fun _ _=>?_);intro hnl)|refine wE ?_|(refine wK ?_ ?_<;>intro h)|(refine wB ?_ ?_<;>intro h<;>simp only[h]))|simp(maxSteps:=4000000) (disch:=first|exact ddL|fail) only[go_sem,simprocAttr])
     exact .inr trivial
  ·have:i=B.cards.length:=by omega
   subst this
   rw[List.take_length,hPB] at hj
   refine jR (hJ (kB ?_))
   repeat' (first|(with_reducible first|(refine wN fun _ hnl=>?_;revert hnl;(repeat refine wS fun _ _=>?_);intro hnl)|refine wE ?_|(refine wK ?_ ?_<;>intro h)|(refine wB ?_ ?_<;>intro h<;>simp only[h]))|simp(maxSteps:=4000000) (disch:=first|exact ddL|fail) only[go_sem,simprocAttr])
   exact .inl (by rw[←hj];rfl)
end

section
set_option maxRecDepth 100000
set_option maxHeartbeats 8000000
theorem IM(b f:Nat):aA Tryz.prog 107 [.ptr b 0 0,.ptr f 0 0] St.none (fun v σ'=>∃m l,l≠m∧v=.fn (.func 197) [] [.ptr m 0 0,.ptr l 0 0]∧σ'=(St.none.set m (.row 43 1 [[.ptr b 0 0]])).set l (.row 46 1 [[.ptr f 0 0]])):=by
 refine(aA.body 6 [.tmp 4] Tryz.func107 rfl rfl rfl rfl ?_)
 repeat' (first|(with_reducible first|(refine wN fun _ hnl=>?_;revert hnl;(repeat refine wS fun _ _=>?_);intro hnl)|refine wE ?_|(refine wK ?_ ?_<;>intro h)|(refine wB ?_ ?_<;>intro h<;>simp only[h]))|simp(maxSteps:=4000000) (disch:=first|exact ddL|fail) only[go_sem,simprocAttr,Tryz.f107])
 all_goals exact⟨_,_,by assumption,rfl,rfl⟩
theorem En{B:BK}(hb:BkR B){fl:List ND}{mk:UInt32}{cur:Int}{j:Nat}(hj:j≤(shC B fl).length)(h1:∀c,c∈(shC B fl).take j→c.id≤cur)(h2:j=(shC B fl).length∨∃c,(shC B fl)[j]?=some c∧cur<c.id) :
  fZ B fl mk cur=((shC B fl).take j).map fun c=>cW c mk:=by
 unfold fZ
 have e:B.cards.filter (fun c=>decide (c.id≤cur)&&eV B.gr fl c)=(shC B fl).filter fun c=>decide (c.id≤cur):=by rw[shC,List.filter_filter]
 rw[e]
 congr 1
 have hr:=(qS hb fl).1
 obtain⟨L,hL⟩:∃L,shC B fl=L:=⟨_,rfl⟩
 rw[hL] at hj h1 h2 hr ⊢
 conv=>lhs;rw[←List.take_append_drop j L]
 rw[List.filter_append,List.filter_eq_self.2 (fun c hc=>by simpa using h1 c hc),List.filter_eq_nil_iff.2,List.append_nil]
 intro c hc
 rcases h2 with h2|⟨d,hd,hlt⟩
 ·rw[h2,List.drop_length] at hc;cases hc
 ·rw[cY hd] at hc
  rcases List.mem_cons.1 hc with rfl|hc
  ·simp;omega
  ·have hsp:=gX L hd
   rw[hsp,List.pairwise_append] at hr
   have:=(List.pairwise_cons.1 hr.2.1).1 c hc
   simp;omega
abbrev idS(n1 n2 n3 q:Nat)(mk:UInt32)(cur:Int)(j:Nat)(R:List (List MV))(ex:List (List MV)):St:=(((St.none.set n1 (.row 39 1 [[.int .u32 (mk.toNat:Int)]])).set n2 (.row 3 1 [[.int .i64 cur]])).set n3 (.row 22 1 [[.vec 27 q 0 j]])).set q (.row 52 27 (R++ex))
theorem C0{B:BK}(hb:BkR B)(h3:B.gr.length≤1000000)(h4:∀g,g∈B.gr→g.mem.length≤1000000){m l q b f:Nat}(D:pU m l q b)(hf:f≠m∧f≠l∧f≠q∧f≠b)(ex:List (List MV)){fl:List ND}(hp:bM fl=0)(d:Bool)(mk:UInt32)(cur:Int) :
  aA Tryz.prog 30 [.ptr b 0 0,.ptr f 0 0,.int .u32 (mk.toNat:Int),.int .i64 cur] ((bkS m l q b B ex).set f (flD fl d)) (fun r _=>r=.lst 27 ((fZ B fl mk cur).map CA.c) false):=by
 refine aA.seen (aA.body 26 [.tmp 8] Tryz.func30 rfl rfl rfl rfl ?_)
 obtain⟨f1,f2,f3,f4⟩:=hf
 have hal:=IM b f
 have hseq:=fun {pb pf:Nat} (DI:Pu m l q b f pb pf)=>Lu hb h3 h4 D DI ex hp d
 obtain⟨X,hX⟩:∃X,shC B fl=X:=⟨_,rfl⟩
 have hres:∀{j:Nat},j≤X.length→(∀c,c∈X.take j→c.id≤cur)→(j=X.length∨∃c,X[j]?=some c∧cur<c.id)→(fZ B fl mk cur).map CA.c=((X.take j).map fun c=>cW c mk).map CA.c:=by
  subst hX
  exact fun hj h1 h2=>congrArg _ (En hb hj h1 h2)
 have hXl:X.length≤1000000:=by rw[←hX];exact(qS hb fl).2.2
 simp only[hX] at hseq
 repeat' (first|(refine j9 hal ?_;(intro pb pf hpb hpf hne;have hpb1:=hpb;have hpf1:=hpf;simp only[aY] at hpb1 hpf1))|(with_reducible first|(refine wT ?_;(first|((fail_if_success (have:=nl1));refine wN fun nl1 hnl=>?_)|((fail_if_success (have:=nl2));refine wN fun nl2 hnl=>?_)|((fail_if_success (have:=nl3));refine wN fun nl3 hnl=>?_)|((fail_if_success (have:=nl4));refine wN fun nl4 hnl=>?_)|((fail_if_success (have:=nl5));refine wN fun nl5 hnl=>?_)|((fail_if_success (have:=nl6));refine wN fun nl6 hnl=>?_)|refine wN fun _ hnl=>?_);revert hnl;(repeat refine wS fun _ _=>?_);intro hnl)|refine wE ?_|(refine wK ?_ ?_<;>intro h)|(refine wB ?_ ?_<;>intro h<;>simp only[h]))|simp(maxSteps:=4000000) (disch:=first|exact ddL|fail) only[go_sem,simprocAttr,Tryz.f30])
 obtain⟨b1,b2,b3,b4,b5,b6,b7,b8,-⟩:=hpb1
 obtain⟨c1,c2,c3,c4,c5,c6,c7,c8,-⟩:=hpf1
 have n21:nl2≠nl1:=by assumption
 have n31:nl3≠nl1:=by assumption
 have n32:nl3≠nl2:=by assumption
 have n12:=Ne.symm n21
 have n13:=Ne.symm n31
 have n23:=Ne.symm n32
 have g1:nl1≠f:=by assumption
 have g2:nl2≠f:=by assumption
 have g3:nl3≠f:=by assumption
 have ha:∀{k:Nat},k≠m→k≠l→k≠q→k≠b→bkS m l q b B ex k=none:=fun h1 h2 h3 h4=>by simp only[aY];exact⟨h4,h3,h2,h1,rfl⟩
 have m1:bkS m l q b B ex nl1=none:=ha (by assumption) (by assumption) (by assumption) (by assumption)
 have m2:bkS m l q b B ex nl2=none:=ha (by assumption) (by assumption) (by assumption) (by assumption)
 have m3:bkS m l q b B ex nl3=none:=ha (by assumption) (by assumption) (by assumption) (by assumption)
 have hxl:(cdX X).length=X.length:=List.length_map _
 have aI:∀k,alI m l q b B ex fl f pb pf d k=(if k=pf then some (.row 46 1 [[.ptr f 0 0]]) else if k=pb then some (.row 43 1 [[.ptr b 0 0]]) else if k=f then some (flD fl d) else bkS m l q b B ex k):=fun k=>rfl
 refine jR (oR (gf:=197) (xs:=cdX X) rfl (σi:=alI m l q b B ex fl f pb pf d) (fun j o hj=>?_) (hseq ⟨⟨f1,f2,f3,f4⟩,⟨b8,b7,b6,b5,b4⟩,⟨c8,c7,c6,c5,c4,hne⟩⟩) ?_ rfl rfl
  (fc:=⟨26,[(9,.ptr nl3 0 0),(7,.ptr nl2 0 0),(6,.ptr nl1 0 0)],[]⟩) rfl (α:=Nat × List (List MV))
  (fun j a=>idS nl1 nl2 nl3 a.1 mk cur j (((X.take j).map fun c=>cW c mk).map CA.c) a.2) (fun j a=>a.1≠nl1∧a.1≠nl2∧a.1≠nl3∧∀c,c∈X.take j→c.id≤cur) ?_ ?_ ?_)
 ·rw[aI] at hj
  by_cases j1:j=pf
  ·subst j1;rw[if_pos rfl] at hj;rw[aM];exact hj
  ·rw[if_neg j1] at hj
   rw[aH _ _ _ _ j1]
   by_cases j2:j=pb
   ·subst j2;rw[if_pos rfl] at hj;rw[aM];exact hj
   ·rw[if_neg j2] at hj
    rw[aH _ _ _ _ j2]
    by_cases j3:j=f
    ·subst j3
     rw[if_pos rfl] at hj
     rw[aH _ _ _ _ (Ne.symm g3),aH _ _ _ _ (Ne.symm g2),aH _ _ _ _ (Ne.symm g1),aM];exact hj
    ·rw[if_neg j3] at hj
     rw[aH _ _ _ _ (fun e=>by subst e;rw[m3] at hj;cases hj),aH _ _ _ _ (fun e=>by subst e;rw[m2] at hj;cases hj),aH _ _ _ _ (fun e=>by subst e;rw[m1] at hj;cases hj),aH _ _ _ _ j3]
     exact hj
 ·intro x hx
  obtain⟨y,_,rfl⟩:=List.mem_map.1 hx
  rfl
 ·have aN:∀{k:Nat},k≠pf→k≠pb→k≠f→bkS m l q b B ex k=none→alI m l q b B ex fl f pb pf d k=none:=fun h1 h2 h3 h4=>by rw[aI,if_neg h1,if_neg h2,if_neg h3];exact h4
  have s1:=aN (Ne.symm c3) (Ne.symm b3) g1 m1
  have s2:=aN (Ne.symm c2) (Ne.symm b2) g2 m2
  have s3:=aN (Ne.symm c1) (Ne.symm b1) g3 m3
  have t1:((((((bkS m l q b B ex).set f (flD fl d)).set nl1 (.row 39 1 [[.int .u32 (mk.toNat:Int)]])).set nl2 (.row 3 1 [[.int .i64 cur]])).set nl3 (.row 22 1 [[.aT]])).set pb (.row 43 1 [[.ptr b 0 0]])).set pf (.row 46 1 [[.ptr f 0 0]]) nl3=some (.row 22 1 [[.aT]]):=by
   rw[aH _ _ _ _ (Ne.symm c1),aH _ _ _ _ (Ne.symm b1),aM]
  refine Gh.De (b:=nl3) (t:=22) (e:=1) (pre:=[]) (post:=[]) 52 27 ?_ fun z hz=>?_
  ·unfold St.minus
   rw[s3]
   exact t1
  ·have lk:∀{k:Nat} {o:bE},alI m l q b B ex fl f pb pf d k=none→((((((bkS m l q b B ex).set f (flD fl d)).set nl1 (.row 39 1 [[.int .u32 (mk.toNat:Int)]])).set nl2 (.row 3 1 [[.int .i64 cur]])).set nl3 (.row 22 1 [[.aT]])).set pb (.row 43 1 [[.ptr b 0 0]])).set pf (.row 46 1 [[.ptr f 0 0]]) k=some o→((((((((bkS m l q b B ex).set f (flD fl d)).set nl1 (.row 39 1 [[.int .u32 (mk.toNat:Int)]])).set nl2 (.row 3 1 [[.int .i64 cur]])).set nl3 (.row 22 1 [[.aT]])).set pb (.row 43 1 [[.ptr b 0 0]])).set pf (.row 46 1 [[.ptr f 0 0]])).minus (alI m l q b B ex fl f pb pf d)) k=some o:=fun h1 h2=>by
    unfold St.minus
    rw[h1]
    exact h2
   have k1:=lk (o:=.row 39 1 [[.int .u32 (mk.toNat:Int)]]) s1 (by rw[aH _ _ _ _ (Ne.symm c3),aH _ _ _ _ (Ne.symm b3),aH _ _ _ _ n13,aH _ _ _ _ n12,aM])
   have k2:=lk (o:=.row 3 1 [[.int .i64 cur]]) s2 (by rw[aH _ _ _ _ (Ne.symm c2),aH _ _ _ _ (Ne.symm b2),aH _ _ _ _ n23,aM])
   have k3:=lk s3 t1
   have z1:z≠nl1:=fun e=>by subst e;rw[k1] at hz;cases hz
   have z2:z≠nl2:=fun e=>by subst e;rw[k2] at hz;cases hz
   have z3:z≠nl3:=fun e=>by subst e;rw[k3] at hz;cases hz
   refine .of (.less (l1:=[(9,.ptr nl3 0 0),(7,.ptr nl2 0 0),(6,.ptr nl1 0 0)]) ?_ (σ1:=idS nl1 nl2 nl3 z mk cur 0 [] []) ?_) ⟨rfl,(z,[]),rfl,z1,z2,z3,by simp⟩
   ·simp(maxSteps:=4000000) (disch:=first|exact ddL|fail) only[go_sem,simprocAttr,aC,aB]
    all_goals first|rfl|(simp;done)
   ·refine St.j6 (St.j6 (St.aL (St.aL (St.none_le _) k1) k2))
 ·rintro j x ⟨z,xx⟩ hx ⟨z1,z2,z3,hcu⟩
  simp only at z1 z2 z3 hcu ⊢
  have hjl:j<X.length:=by
   have:=(List.getElem?_eq_some_iff.1 hx).1
   rwa [hxl] at this
  obtain⟨c,hc⟩:=bC X hjl
  have hxe:x=[.agg c.c]:=by
   rw[List.getElem?_map,hc] at hx
   exact(Option.some.inj hx).symm
  subst hxe
  have z1':=Ne.symm z1
  have z2':=Ne.symm z2
  have z3':=Ne.symm z3
  have htk:=aO hc
  have hpj:=vR c mk
  have hRl:(((X.take j).map fun c=>cW c mk).map CA.c).length=j:=by rw[List.length_map,List.length_map,List.length_take];omega
  have hsn:((X.take (j+1)).map fun c=>cW c mk).map CA.c=((X.take j).map fun c=>cW c mk).map CA.c++[(cW c mk).c]:=by rw[htk,List.map_append,List.map_append];rfl
  have hre:=hres (Nat.le_of_lt hjl) hcu
  obtain⟨RR,hRR⟩:∃RR,((X.take j).map fun c=>cW c mk).map CA.c=RR:=⟨_,rfl⟩
  rw[hRR] at hRl hsn hre ⊢
  have hdr:(RR++xx).drop (j+1)=xx.drop 1:=by rw[←hRl,←List.drop_drop,List.drop_left'];rfl
  have htk':(RR++xx).take j=RR:=by rw[←hRl,List.take_left'];rfl
  obtain⟨C,k1⟩:∃C:bP,∀ms,C 108 ms=some ⟨[],fun v=>v=.agg (cW c mk).c,none⟩:=⟨lO 108 (.agg (cW c mk).c),fun _=>cM⟩
  obtain⟨pc,hpc⟩:∃pc,cW c mk=pc:=⟨_,rfl⟩
  rw[hpc] at hpj hsn k1
  change mwp _ _ (FR.mk 26 [(14,.agg c.c),(9,.ptr nl3 0 0),(7,.ptr nl2 0 0),(6,.ptr nl1 0 0)] []) _ _
  refine qJ ?_
  repeat' (first|(with_reducible first|(refine wT ?_;(first|((fail_if_success (have:=nl1));refine wN fun nl1 hnl=>?_)|((fail_if_success (have:=nl2));refine wN fun nl2 hnl=>?_)|((fail_if_success (have:=nl3));refine wN fun nl3 hnl=>?_)|((fail_if_success (have:=nl4));refine wN fun nl4 hnl=>?_)|((fail_if_success (have:=nl5));refine wN fun nl5 hnl=>?_)|((fail_if_success (have:=nl6));refine wN fun nl6 hnl=>?_)|refine wN fun _ hnl=>?_);revert hnl;(repeat refine wS fun _ _=>?_);intro hnl)|refine wE ?_|(refine wK ?_ ?_<;>intro h)|(refine wB ?_ ?_<;>intro h<;>simp only[h]))|simp(maxSteps:=4000000) (disch:=first|exact ddL|fail) only[go_sem,simprocAttr,FXs])
  refine jR (qJ ?_)
  by_cases hcc:cur<c.id
  ·repeat' (first|(with_reducible first|(refine wT ?_;(first|((fail_if_success (have:=nl1));refine wN fun nl1 hnl=>?_)|((fail_if_success (have:=nl2));refine wN fun nl2 hnl=>?_)|((fail_if_success (have:=nl3));refine wN fun nl3 hnl=>?_)|((fail_if_success (have:=nl4));refine wN fun nl4 hnl=>?_)|((fail_if_success (have:=nl5));refine wN fun nl5 hnl=>?_)|((fail_if_success (have:=nl6));refine wN fun nl6 hnl=>?_)|refine wN fun _ hnl=>?_);revert hnl;(repeat refine wS fun _ _=>?_);intro hnl)|refine wE ?_|(refine wK ?_ ?_<;>intro h)|(refine wB ?_ ?_<;>intro h<;>simp only[h]))|simp(maxSteps:=4000000) (disch:=first|exact ddL|fail) only[go_sem,simprocAttr,FXs])
   refine .of (bV.less (l1:=[]) (fun p hp=>by cases hp) (σ1:=idS nl1 nl2 nl3 z mk cur j RR xx) (mQ (by simp only[aY];exact⟨by assumption,by assumption,by assumption,by assumption,rfl⟩))) ?_
   show R _
   repeat' (first|(with_reducible first|(refine wT ?_;(first|((fail_if_success (have:=nl1));refine wN fun nl1 hnl=>?_)|((fail_if_success (have:=nl2));refine wN fun nl2 hnl=>?_)|((fail_if_success (have:=nl3));refine wN fun nl3 hnl=>?_)|((fail_if_success (have:=nl4));refine wN fun nl4 hnl=>?_)|((fail_if_success (have:=nl5));refine wN fun nl5 hnl=>?_)|((fail_if_success (have:=nl6));refine wN fun nl6 hnl=>?_)|refine wN fun _ hnl=>?_);revert hnl;(repeat refine wS fun _ _=>?_);intro hnl)|refine wE ?_|(refine wK ?_ ?_<;>intro h)|(refine wB ?_ ?_<;>intro h<;>simp only[h]))|simp(maxSteps:=4000000) (disch:=first|exact ddL|fail) only[go_sem,simprocAttr])
   rw[hre (.inr ⟨c,hc,hcc⟩)]
   exact dW (aM _ _ _) hRl.symm
  ·repeat' (first|((with_reducible refine aJ mixed ?chk C ?_);(case chk=>decide +kernel))|(with_reducible refine aF (k1 _) hpj ?_)|(with_reducible first|(refine wT ?_;(first|((fail_if_success (have:=nl1));refine wN fun nl1 hnl=>?_)|((fail_if_success (have:=nl2));refine wN fun nl2 hnl=>?_)|((fail_if_success (have:=nl3));refine wN fun nl3 hnl=>?_)|((fail_if_success (have:=nl4));refine wN fun nl4 hnl=>?_)|((fail_if_success (have:=nl5));refine wN fun nl5 hnl=>?_)|((fail_if_success (have:=nl6));refine wN fun nl6 hnl=>?_)|refine wN fun _ hnl=>?_);revert hnl;(repeat refine wS fun _ _=>?_);intro hnl)|refine wE ?_|(refine wK ?_ ?_<;>intro h)|(refine wB ?_ ?_<;>intro h<;>simp only[h]))|simp(maxSteps:=4000000) (disch:=first|exact ddL|fail) only[go_sem,simprocAttr,FXs,htk',hdr,hRl])
   all_goals (try (exfalso;omega))
   all_goals
    have p1:nl6≠nl1:=by assumption
    have p2:nl6≠nl2:=by assumption
    have p3:nl6≠nl3:=by assumption
    have p4:nl6≠nl4:=by assumption
    have p5:nl6≠nl5:=by assumption
    have hcu':∀c,c∈X.take (j+1)→c.id≤cur:=fun y hy=>by
     rw[htk,List.mem_append,List.mem_singleton] at hy
     rcases hy with hy|rfl
     ·exact hcu y hy
     ·omega
    clear hres hseq hre hcu hal ha hdr htk' hpj hX
   ·have hex:xx=[]:=List.eq_nil_of_length_eq_zero (by omega)
    subst hex
    clear h
    refine .of (bV.less (l1:=[]) (fun p hp=>by cases hp) (σ1:=idS nl1 nl2 nl3 nl6 mk cur (j+1) (RR++[pc.c]) []) ?_) ⟨(nl6,[]),by rw[hsn],p1,p2,p3,hcu'⟩
    clear hcu' k1 aI
    exact St.aL (St.aL (St.aL (St.aL (St.none_le _) (by simp[St.set, *])) (by simp[St.set, *])) (by simp[St.set, *])) (by simp[St.set, *])
   ·refine .of (bV.less (l1:=[]) (fun p hp=>by cases hp) (σ1:=idS nl1 nl2 nl3 nl6 mk cur (j+1) (RR++[pc.c]) (xx.drop 1)) ?_) ⟨(nl6,xx.drop 1),by rw[hsn],p1,p2,p3,hcu'⟩
    clear hcu' h k1 aI
    exact St.aL (St.aL (St.aL (St.aL (St.none_le _) (by simp[St.set, *])) (by simp[St.set, *])) (by simp[St.set, *])) (by simp[St.set, *])
 ·rintro⟨z,xx⟩ ⟨z1,z2,z3,hcu⟩
  rw[hxl] at hcu ⊢
  have hre:=hres (Nat.le_refl _) hcu (.inl rfl)
  simp only at z1 z2 z3 ⊢
  show R _
  repeat' (first|(with_reducible first|(refine wT ?_;(first|((fail_if_success (have:=nl1));refine wN fun nl1 hnl=>?_)|((fail_if_success (have:=nl2));refine wN fun nl2 hnl=>?_)|((fail_if_success (have:=nl3));refine wN fun nl3 hnl=>?_)|((fail_if_success (have:=nl4));refine wN fun nl4 hnl=>?_)|((fail_if_success (have:=nl5));refine wN fun nl5 hnl=>?_)|((fail_if_success (have:=nl6));refine wN fun nl6 hnl=>?_)|refine wN fun _ hnl=>?_);revert hnl;(repeat refine wS fun _ _=>?_);intro hnl)|refine wE ?_|(refine wK ?_ ?_<;>intro h)|(refine wB ?_ ?_<;>intro h<;>simp only[h]))|simp(maxSteps:=4000000) (disch:=first|exact ddL|fail) only[go_sem,simprocAttr])
  rw[hre]
  exact dW (aM _ _ _) (by rw[List.length_map,List.length_map,List.take_length])
end
end Go.Proofs.YtojmhmejdihaaaaGreatDoor
