/- Parts of the proof, joined; conditions: those that its theorems name. -/
import Derived.Test.YtaojijkdamfbnaaGreatDoorMbze
set_option linter.unusedVariables false
set_option linter.unusedSimpArgs false
set_option maxHeartbeats 4000000
namespace Go.Proofs.YtaojijkdamfbnaaGreatDoor
section
set_option maxRecDepth 100000
set_option maxHeartbeats 8000000
theorem KF{D:Nat→Prop}(l:List Int):∀x,x∈l.map (fun i=>[MV.int .i64 i])→∀m,m∈x→InD D m:=fun x hx m hm=>by
 obtain⟨i,_,rfl⟩:=List.mem_map.1 hx
 rw[List.mem_singleton] at hm
 subst hm
 exact .flat (.int _ _)
theorem Ij{D:Nat→Prop}(x:ND):∀m,m∈x.c→InD D m:=fun m hm=>by
 simp only[ND.c,List.mem_cons,List.not_mem_nil,or_false] at hm
 rcases hm with rfl|rfl|rfl|rfl|rfl<;>first|exact .flat (.int _ _)|exact .flat (.str _)
theorem Ii{D:Nat→Prop}(x:ND):InD D (xC x):=by
 unfold xC xB
 refine .fn (fun m hm=>by cases hm) fun m hm=>?_
 split at hm
 ·rw[List.mem_singleton] at hm
  subst hm
  exact .cptr (Ij x)
 ·cases hm
theorem rV{D:Nat→Prop}:∀t:T,InD D (iX t)
 | .leaf x=>Ii x
 | .one _ a=>.fn (fun m hm=>by cases hm) fun m hm=>by
  rw[List.mem_singleton] at hm
  subst hm
  exact .cptr fun m hm=>by
   rw[List.mem_singleton] at hm
   subst hm
   exact rV a
 | .two x a b=>.fn (fun m hm=>by cases hm) fun m hm=>by
  simp only[List.mem_cons,List.not_mem_nil,or_false] at hm
  rcases hm with rfl|rfl
  ·exact .cptr fun m hm=>by
    rw[List.mem_singleton] at hm
    subst hm
    exact rV a
  ·exact .cptr fun m hm=>by
    rw[List.mem_singleton] at hm
    subst hm
    exact rV b
theorem Nr{D:Nat→Prop}(x:DE):∀m,m∈x.c→InD D m:=fun m hm=>by
 simp only[DE.c,List.mem_cons,List.not_mem_nil,or_false] at hm
 rcases hm with rfl|rfl|rfl<;>exact .flat (.int _ _)
theorem Ns{D:Nat→Prop}(x:GR):∀m,m∈x.c→InD D m:=fun m hm=>by
 simp only[GR.c,List.mem_cons,List.not_mem_nil,or_false] at hm
 rcases hm with rfl|rfl
 ·exact .flat (.int _ _)
 ·exact .lst (KF _)
theorem Hb{B:BK}(hb:BkR B)(h3:B.gr.length≤1000000)(h4:∀g,g∈B.gr→g.mem.length≤1000000){m l q b f pb pf:Nat}(D:nD m l q b)(DI:Kg m l q b f pb pf)(ex:List (List MV)){fl:List ND}(hp:bU fl=0)(d:Bool) :
  oR Tryz.prog 95 [.ptr pb 0 0,.ptr pf 0 0] (alI m l q b B ex fl f pb pf d) (cdX (shC B fl)) (fun τ=>(alI m l q b B ex fl f pb pf (d || decide (0<B.cards.length))).le τ):=by
 refine oR.gF 27 Tryz.func95 rfl rfl rfl rfl fun C hC hspec=>?_
 have hri:=uA hb.cok hb.nx2 (by have:=hb.nc;omega)
 have hcs:=vP B.nx B.sq (.vec 3 q 0 B.dead.length) (.lst 2 (B.gr.map GR.c) false) B.cards D.lm D.bm D.bl hri
 have hgr:=mH B.sq l b B.gr h3 h4 hb.gok
 have hnc:=hb.nc
 have hxl:(cdX (shC B fl)).length=(shC B fl).length:=List.length_map _
 rw[hxl]
 obtain⟨d1,d2,d3,d4,d5,d6⟩:=D
 obtain⟨⟨f1,f2,f3,f4⟩,⟨p1,p2,p3,p4,p5⟩,⟨r1,r2,r3,r4,r5,r6⟩⟩:=DI
 have e1:=Ne.symm d1
 have e2:=Ne.symm d2
 have e3:=Ne.symm d3
 have e4:=Ne.symm d4
 have e5:=Ne.symm d5
 have e6:=Ne.symm d6
 have f1':=Ne.symm f1
 have f2':=Ne.symm f2
 have f3':=Ne.symm f3
 have f4':=Ne.symm f4
 have p1':=Ne.symm p1
 have p2':=Ne.symm p2
 have p3':=Ne.symm p3
 have p4':=Ne.symm p4
 have p5':=Ne.symm p5
 have r1':=Ne.symm r1
 have r2':=Ne.symm r2
 have r3':=Ne.symm r3
 have r4':=Ne.symm r4
 have r5':=Ne.symm r5
 have r6':=Ne.symm r6
 obtain⟨PB,hPB⟩:∃PB,PB=gI B.gr fl:=⟨_,rfl⟩
 refine eF (eQ (gS ?_))
 repeat' (first|(refine gJ hcs (St.aH (le2 (by simp[St.set, *]) (by simp[St.set, *])) (by simp[St.set, *])) ?_)|(with_reducible first|(refine wN fun _ hnl=>?_;revert hnl;(repeat refine wS fun _ _=>?_);intro hnl)|refine wE ?_|(refine wK ?_ ?_<;>intro h)|(refine wB ?_ ?_<;>intro h<;>simp only[h]))|simp(maxSteps:=4000000) (disch:=first|decide|assumption|omega|(simp only[wL];omega)) only[go_sem,simprocAttr,Tryz.f95])
 refine eF (kN (uV (α:=Nat × Nat × Bool) (fun a=>⟨27,[(0,.fn (.yield C.l) [] []),(9,.int .i64 (a.1:Int)),(8,.int .i64 (B.cards.length:Int)),(7,.lst 27 (B.cards.map CA.c) false),(1,.ptr pb 0 0),(2,.ptr pf 0 0)],[]⟩) (fun a=>alI m l q b B ex fl f pb pf a.2.2) (fun a=>some a.2.1)
   (fun a=>a.1≤B.cards.length∧((B.cards.take a.1).filter PB).length=a.2.1∧a.2.2=(d || decide (0<a.1))) (fun a=>B.cards.length - a.1) ?_ ?_))
 ·refine .of (.less ?_ (St.le_refl _)) ⟨(0,0,d),rfl,rfl,rfl,Nat.zero_le _,rfl,by simp⟩
  simp(maxSteps:=4000000) (disch:=first|decide|assumption|omega|(simp only[wL];omega)) only[go_sem,simprocAttr,aC,aB]
  all_goals first|rfl|(simp;done)
 ·rintro⟨i,j,d1⟩ ⟨hi,hj,hd1⟩
  simp only at hi hj hd1 ⊢
  refine eQ (gS ?_)
  repeat' (first|(with_reducible first|(refine wN fun _ hnl=>?_;revert hnl;(repeat refine wS fun _ _=>?_);intro hnl)|refine wE ?_|(refine wK ?_ ?_<;>intro h)|(refine wB ?_ ?_<;>intro h<;>simp only[h]))|simp(maxSteps:=4000000) (disch:=first|decide|assumption|omega|(simp only[wL];omega)) only[go_sem,simprocAttr])
  by_cases hlt:i<B.cards.length
  ·obtain⟨x,hx⟩:=bL B.cards hlt
   have hat:=bI (f:=CA.c) hx
   refine eF (eQ (gS ?_))
   repeat' (first|(with_reducible first|(refine wN fun _ hnl=>?_;revert hnl;(repeat refine wS fun _ _=>?_);intro hnl)|refine wE ?_|(refine wK ?_ ?_<;>intro h)|(refine wB ?_ ?_<;>intro h<;>simp only[h]))|simp(maxSteps:=4000000) (disch:=first|decide|assumption|omega|(simp only[wL];omega)) only[go_sem,simprocAttr,hat])
   refine eF (eQ (kN (eQ (gS ?_))))
   repeat' (first|(with_reducible first|(refine wN fun _ hnl=>?_;revert hnl;(repeat refine wS fun _ _=>?_);intro hnl)|refine wE ?_|(refine wK ?_ ?_<;>intro h)|(refine wB ?_ ?_<;>intro h<;>simp only[h]))|simp(maxSteps:=4000000) (disch:=first|decide|assumption|omega|(simp only[wL];omega)) only[go_sem,simprocAttr,hat,FXs])
   have hmt:=rC hp hb.gok (rQ hb (cW hx)).1 f d1
   have hgx:=hgr x.id
   obtain⟨g,hg⟩:∃g:Int,(grB B.gr x.id:Int)=g:=⟨_,rfl⟩
   rw[hg] at hmt hgx
   rw[←hPB] at hmt
   have htk:=bA hx
   have hsp:=pJ B.cards hx
   obtain⟨sb,hsb⟩:∃sb,PB x=sb:=⟨_,rfl⟩
   rw[hsb] at hmt
   obtain⟨DK,hDK,c1,c2⟩:∃DK:b9,PlU (.these [47]) DK∧(∀ms,DK 48 ms=some ⟨[b],fun v=>v=.int .u32 g,none⟩)∧∀ms,DK 47 ms=some ⟨[f],fun _=>True,some ([flD fl true],fun _=>.bool sb)⟩ :=
    ⟨fnF [(48,⟨[b],fun v=>v=.int .u32 g,none⟩),(47,⟨[f],fun _=>True,some ([flD fl true],fun _=>.bool sb)⟩)],zL,fun _=>dE,fun _=>fX dE⟩
   refine eF (eQ (Ei mixed [47] DK hDK [_,_,_,_,_,_,_,_,_,_] [_,_] rfl (by decide +kernel) hspec ?_))
   cases sb
   ·repeat' (first|(refine o6 [b] [cF B.sq l (.lst 2 (B.gr.map GR.c) false)] (c1 _) (by simp[St.set, *]) hgx ?_)|(refine mX (c2 _) (by simp[St.set, *]) hmt ?_)|(with_reducible first|(refine wN fun _ hnl=>?_;revert hnl;(repeat refine wS fun _ _=>?_);intro hnl)|refine wE ?_|(refine wK ?_ ?_<;>intro h)|(refine wB ?_ ?_<;>intro h<;>simp only[h]))|simp(maxSteps:=4000000) (disch:=first|decide|assumption|omega|(simp only[wL];omega)) only[go_sem,simprocAttr,FXs])
    refine eF (gS ?_)
    repeat' (first|(with_reducible first|(refine wN fun _ hnl=>?_;revert hnl;(repeat refine wS fun _ _=>?_);intro hnl)|refine wE ?_|(refine wK ?_ ?_<;>intro h)|(refine wB ?_ ?_<;>intro h<;>simp only[h]))|simp(maxSteps:=4000000) (disch:=first|decide|assumption|omega|(simp only[wL];omega)) only[go_sem,simprocAttr])
    refine eF (gS ?_)
    repeat' (first|(with_reducible first|(refine wN fun _ hnl=>?_;revert hnl;(repeat refine wS fun _ _=>?_);intro hnl)|refine wE ?_|(refine wK ?_ ?_<;>intro h)|(refine wB ?_ ?_<;>intro h<;>simp only[h]))|simp(maxSteps:=4000000) (disch:=first|decide|assumption|omega|(simp only[wL];omega)) only[go_sem,simprocAttr])
    refine .of (.less ?_ (fD (by simp only[aY];exact⟨by assumption,by assumption,by assumption,by assumption,by assumption,by assumption,by assumption,rfl⟩))) ⟨(i+1,j,true),rfl,rfl,rfl,⟨by simp only;omega,?_,by simp⟩,by simp only;omega⟩
    ·simp(maxSteps:=4000000) (disch:=first|decide|assumption|omega|(simp only[wL];omega)) only[go_sem,simprocAttr,aC,aB]
     all_goals first|rfl|(simp;done)
    ·simp only
     rw[htk,List.filter_append,List.length_append,hj]
     simp[hsb]
   ·repeat' (first|(refine o6 [b] [cF B.sq l (.lst 2 (B.gr.map GR.c) false)] (c1 _) (by simp[St.set, *]) hgx ?_)|(refine mX (c2 _) (by simp[St.set, *]) hmt ?_)|(with_reducible first|(refine wN fun _ hnl=>?_;revert hnl;(repeat refine wS fun _ _=>?_);intro hnl)|refine wE ?_|(refine wK ?_ ?_<;>intro h)|(refine wB ?_ ?_<;>intro h<;>simp only[h]))|simp(maxSteps:=4000000) (disch:=first|decide|assumption|omega|(simp only[wL];omega)) only[go_sem,simprocAttr,FXs])
    have hxs:C.xs[j]?=some [.agg x.c]:=by
     rw[hC,List.getElem?_map,shC,←hPB,hsp,List.filter_append,List.getElem?_append_right (by omega),hj,Nat.sub_self,List.filter_cons_of_pos (by simpa using hsb)]
     rfl
    refine Cb rfl hxs (tL x) rfl ?_ ?_
    ·repeat' (first|(with_reducible first|(refine wN fun _ hnl=>?_;revert hnl;(repeat refine wS fun _ _=>?_);intro hnl)|refine wE ?_|(refine wK ?_ ?_<;>intro h)|(refine wB ?_ ?_<;>intro h<;>simp only[h]))|simp(maxSteps:=4000000) (disch:=first|decide|assumption|omega|(simp only[wL];omega)) only[go_sem,simprocAttr])
     refine eF (gS ?_)
     repeat' (first|(with_reducible first|(refine wN fun _ hnl=>?_;revert hnl;(repeat refine wS fun _ _=>?_);intro hnl)|refine wE ?_|(refine wK ?_ ?_<;>intro h)|(refine wB ?_ ?_<;>intro h<;>simp only[h]))|simp(maxSteps:=4000000) (disch:=first|decide|assumption|omega|(simp only[wL];omega)) only[go_sem,simprocAttr])
     refine eF (gS ?_)
     repeat' (first|(with_reducible first|(refine wN fun _ hnl=>?_;revert hnl;(repeat refine wS fun _ _=>?_);intro hnl)|refine wE ?_|(refine wK ?_ ?_<;>intro h)|(refine wB ?_ ?_<;>intro h<;>simp only[h]))|simp(maxSteps:=4000000) (disch:=first|decide|assumption|omega|(simp only[wL];omega)) only[go_sem,simprocAttr])
     refine .of (.less ?_ (fD (by simp only[aY];exact⟨by assumption,by assumption,by assumption,by assumption,by assumption,by assumption,by assumption,rfl⟩))) ⟨(i+1,j+1,true),rfl,rfl,rfl,⟨by simp only;omega,?_,by simp⟩,by simp only;omega⟩
     ·simp(maxSteps:=4000000) (disch:=first|decide|assumption|omega|(simp only[wL];omega)) only[go_sem,simprocAttr,aC,aB]
      all_goals first|rfl|(simp;done)
     ·simp only
      rw[htk,List.filter_append,List.length_append,hj]
      simp[hsb]
    ·repeat' (first|(with_reducible first|(refine wN fun _ hnl=>?_;revert hnl;(repeat refine wS fun _ _=>?_);intro hnl)|refine wE ?_|(refine wK ?_ ?_<;>intro h)|(refine wB ?_ ?_<;>intro h<;>simp only[h]))|simp(maxSteps:=4000000) (disch:=first|decide|assumption|omega|(simp only[wL];omega)) only[go_sem,simprocAttr])
     refine eF (gS ?_)
     repeat' (first|(with_reducible first|(refine wN fun _ hnl=>?_;revert hnl;(repeat refine wS fun _ _=>?_);intro hnl)|refine wE ?_|(refine wK ?_ ?_<;>intro h)|(refine wB ?_ ?_<;>intro h<;>simp only[h]))|simp(maxSteps:=4000000) (disch:=first|decide|assumption|omega|(simp only[wL];omega)) only[go_sem,simprocAttr])
     rw[show(d || decide (0<B.cards.length))=true by rw[decide_eq_true (by omega)];simp]
     exact⟨rfl,.inr rfl,fD (by simp only[aY];exact⟨by assumption,by assumption,by assumption,by assumption,by assumption,by assumption,by assumption,rfl⟩)⟩
  ·have:i=B.cards.length:=by omega
   subst this
   rw[List.take_length,hPB] at hj
   refine eF (eQ (gS ?_))
   repeat' (first|(with_reducible first|(refine wN fun _ hnl=>?_;revert hnl;(repeat refine wS fun _ _=>?_);intro hnl)|refine wE ?_|(refine wK ?_ ?_<;>intro h)|(refine wB ?_ ?_<;>intro h<;>simp only[h]))|simp(maxSteps:=4000000) (disch:=first|decide|assumption|omega|(simp only[wL];omega)) only[go_sem,simprocAttr])
   rw[hd1]
   exact⟨rfl,.inl (by rw[←hj];rfl),St.le_refl _⟩
theorem Mp{m l q b f pb pf:Nat}{B:BK}{ex:List (List MV)}{fl:List ND}(d d0:Bool)(hex:∀x,x∈ex→∀y,y∈x→InD (fun k=>alI m l q b B ex fl f pb pf d0 k≠none) y){τ:St}(hτ:(alI m l q b B ex fl f pb pf d).le τ) :
  ∀k o,alI m l q b B ex fl f pb pf d0 k≠none→τ k=some o→InO (fun k=>alI m l q b B ex fl f pb pf d0 k≠none) o:=by
 intro k o hk ho
 obtain⟨o',ho'⟩:∃o',alI m l q b B ex fl f pb pf d k=some o':=by
  cases e:alI m l q b B ex fl f pb pf d k with
  | some o'=>exact⟨o',rfl⟩
  | none =>
   exfalso
   simp only[oJ] at hk
   rw[aY] at e
   obtain⟨e1,e⟩:=e
   rw[aY] at e
   obtain⟨e2,e⟩:=e
   rw[aY] at e
   obtain⟨e3,e⟩:=e
   rw[aY] at e
   obtain⟨e4,e⟩:=e
   rw[aY] at e
   obtain⟨e5,e⟩:=e
   rw[aY] at e
   obtain⟨e6,e⟩:=e
   rw[aY] at e
   obtain⟨e7,e⟩:=e
   rcases hk with h|h|h|h|h|h|h|h
   ·exact e1 h
   ·exact e2 h
   ·exact e3 h
   ·exact e4 h
   ·exact e5 h
   ·exact e6 h
   ·exact e7 h
   ·exact h rfl
 have e:=hτ k o' ho'
 rw[ho] at e
 obtain rfl:=Option.some.inj e
 have one:∀{D:Nat→Prop} {a c:Nat} {x:MV},InD D x→InO D (.row a c [[x]]):=fun hx y hy z hz=>by
  rw[List.mem_singleton] at hy
  subst hy
  rw[List.mem_singleton] at hz
  subst hz
  exact hx
 rcases gH ho' with⟨rfl,rfl⟩|⟨_,h⟩
 ·exact one (.ptr (by simp only[oJ];simp))
 rcases gH h with⟨rfl,rfl⟩|⟨_,h⟩
 ·exact one (.ptr (by simp only[oJ];simp))
 rcases gH h with⟨rfl,rfl⟩|⟨_,h⟩
 ·intro y hy z hz
  rw[List.mem_singleton] at hy
  subst hy
  simp only[List.mem_cons,List.not_mem_nil,or_false] at hz
  rcases hz with rfl|rfl|rfl|rfl|rfl
  ·exact .lst fun x hx=>by
    obtain⟨n,_,rfl⟩:=List.mem_map.1 hx
    exact Ij n
  ·exact .flat (.int _ _)
  ·exact .flat (.int _ _)
  ·exact .flat (.int _ _)
  ·split
   ·exact rV _
   ·exact .flat .nilfn
 rcases gH h with⟨rfl,rfl⟩|⟨_,h⟩
 ·intro y hy z hz
  rw[List.mem_singleton] at hy
  subst hy
  simp only[List.mem_cons,List.not_mem_nil,or_false] at hz
  rcases hz with rfl|rfl|rfl
  ·exact .flat (.int _ _)
  ·exact .ptr (by simp only[oJ];simp)
  ·exact .lst fun x hx=>by
    obtain⟨n,_,rfl⟩:=List.mem_map.1 hx
    exact Ns n
 rcases gH h with⟨rfl,rfl⟩|⟨_,h⟩
 ·intro y hy
  rcases List.mem_append.1 hy with hy|hy
  ·obtain⟨n,_,rfl⟩:=List.mem_map.1 hy
   exact Nr n
  ·exact hex y hy
 rcases gH h with⟨rfl,rfl⟩|⟨_,h⟩
 ·intro y hy z hz
  rw[List.mem_singleton] at hy
  subst hy
  simp only[List.mem_cons,List.not_mem_nil,or_false] at hz
  rcases hz with rfl|rfl|rfl
  ·exact .flat (.int _ _)
  ·exact .mapv (by simp only[oJ];simp)
  ·exact .vec (by simp only[oJ];simp)
 rcases gH h with⟨rfl,rfl⟩|⟨_,h⟩
 ·intro z hz
  obtain⟨c,_,rfl⟩:=List.mem_map.1 hz
  exact⟨.flat (.int _ _),.of (tL c _ (List.mem_singleton.2 rfl))⟩
 ·cases h
end

section
set_option maxRecDepth 100000
set_option maxHeartbeats 8000000
theorem Ha(b f:Nat):aA Tryz.prog 52 [.ptr b 0 0,.ptr f 0 0] St.none (fun v σ'=>∃m l,l≠m∧v=.fn (.func 95) [] [.ptr m 0 0,.ptr l 0 0]∧σ'=(St.none.set m (.row 33 1 [[.ptr b 0 0]])).set l (.row 36 1 [[.ptr f 0 0]])):=by
 refine(aA.body 6 [.tmp 4] Tryz.func52 rfl rfl rfl rfl ?_)
 repeat' (first|(with_reducible first|(refine wN fun _ hnl=>?_;revert hnl;(repeat refine wS fun _ _=>?_);intro hnl)|refine wE ?_|(refine wK ?_ ?_<;>intro h)|(refine wB ?_ ?_<;>intro h<;>simp only[h]))|simp(maxSteps:=4000000) (disch:=first|exact ddL|fail) only[go_sem,simprocAttr,Tryz.f52])
 all_goals exact⟨_,_,by assumption,rfl,rfl⟩
end

section
set_option maxRecDepth 100000
set_option maxHeartbeats 8000000
theorem Fm{B:BK}(h1:B.cards.length≤1000000)(h2:B.dead.length≤1000000)(h3:B.gr.length≤1000000)(h4:∀g,g∈B.gr→g.mem.length≤1000000)(h:j8 B=true) :
  aA Tryz.prog 11 [.agg B.c] St.none (fun v σ'=>∃m l q b ex,nD m l q b∧v=.tup [.ptr b 0 0,.bool true]∧σ'=bkS m l q b B ex) :=
 (Ag B h1 h2 h3 h4).mono fun v σ' q=>by
  rcases q with⟨_,q⟩|⟨q,_⟩
  ·exact q
  ·rw[h] at q;cases q
end

section
open Go.ChangeShapes Go.WideShapes Go.RowKit
set_option maxRecDepth 100000
theorem Nz{n:Nat}{x:List MV}(h:CT Tryz.prog (n+2) 46 x):∃l:List Int,x=[.lst 1 (l.map aW) false]:=by
 obtain⟨xs,hm,_,hx⟩:=lX (by rw[MT]) h
 obtain⟨l,rfl⟩:=l9 (f:=aW) fun x hx'=>(pA (hx x hx')).imp fun _ h=>h.1
 rw[td3] at hm
 exact⟨l,hm⟩
theorem MB{n:Nat}{x:List MV}(h:CT Tryz.prog (n+5) 22 x):∃l:List CA,x=[.lst 27 (l.map CA.c) false]:=by
 obtain⟨xs,hm,_,hx⟩:=lX (by rw[MN]) h
 obtain⟨l,rfl⟩:=l9 fun x hx'=>Nx (hx x hx')
 rw[HA] at hm
 exact⟨l,hm⟩
theorem Ny{n:Nat}{x:List MV}(h:CT Tryz.prog (n+2) 90 x):∃d:DE,x=d.c:=by
 obtain⟨hl,hf⟩:=gU (congrArg TD.k LG) h
 rw[LG] at hl
 obtain⟨a,ha,_⟩:=pA (hf (0,3) (by simp))
 obtain⟨b,hb,_⟩:=pA (hf (1,3) (by simp))
 obtain⟨c,hc,_⟩:=pA (hf (2,3) (by simp))
 simp only[td3] at ha hb hc
 refine⟨⟨a,b,c⟩,?_⟩
 rw[j7 hl [(0,1),(1,1),(2,1)] rfl]
 simp only[qJ,ha,hb,hc]
 rfl
theorem MD{n:Nat}{x:List MV}(h:CT Tryz.prog (n+3) 23 x):∃l:List DE,x=[.lst 3 (l.map DE.c) false]:=by
 obtain⟨xs,hm,_,hx⟩:=lX (by rw[MO]) h
 obtain⟨l,rfl⟩:=l9 fun x hx'=>Ny (hx x hx')
 rw[LG] at hm
 exact⟨l,hm⟩
theorem ME{n:Nat}{x:List MV}(h:CT Tryz.prog (n+3) 94 x):∃g:GR,x=g.c:=by
 obtain⟨hl,hf⟩:=gU (congrArg TD.k LH) h
 rw[LH] at hl
 obtain⟨a,ha,_⟩:=pA (hf (0,3) (by simp))
 obtain⟨b,hb⟩:=Nz (hf (1,46) (by simp))
 simp only[td3,MT] at ha hb
 refine⟨⟨a,b⟩,?_⟩
 rw[j7 hl [(0,1),(1,1)] rfl]
 simp only[qJ,ha,hb]
 rfl
theorem Ll{n:Nat}{x:List MV}(h:CT Tryz.prog (n+4) 24 x):∃l:List GR,x=[.lst 2 (l.map GR.c) false]:=by
 obtain⟨xs,hm,_,hx⟩:=lX (by rw[MP]) h
 obtain⟨l,rfl⟩:=l9 fun x hx'=>ME (hx x hx')
 rw[LH] at hm
 exact⟨l,hm⟩
theorem Nw{n:Nat}{x:List MV}(h:CT Tryz.prog (n+6) 26 x):∃b:BK,x=b.c:=by
 obtain⟨hl,hf⟩:=gU (congrArg TD.k LC) h
 rw[LC] at hl
 obtain⟨a,ha,_⟩:=pA (hf (0,3) (by simp))
 obtain⟨b,hb,_⟩:=pA (hf (1,3) (by simp))
 obtain⟨c,hc⟩:=MB (hf (2,22) (by simp))
 obtain⟨d,hd⟩:=MD (hf (3,23) (by simp))
 obtain⟨g,hg⟩:=Ll (hf (4,24) (by simp))
 simp only[td3,MN,MO,MP] at ha hb hc hd hg
 refine⟨⟨a,b,c,d,g⟩,?_⟩
 rw[j7 hl [(0,1),(1,1),(2,1),(3,1),(4,1)] rfl]
 simp only[qJ,ha,hb,hc,hd,hg]
 rfl
end
end Go.Proofs.YtaojijkdamfbnaaGreatDoor
