/- Parts of the proof, joined; conditions: those that its theorems name. -/
import Derived.Test.YtaojijkdamfbnaaGreatDoorMfzc
import Derived.Test.YtaojijkdamfbnaaGreatDoorMfzd
set_option linter.unusedVariables false
set_option linter.unusedSimpArgs false
set_option maxHeartbeats 4000000
namespace Go.Proofs.YtaojijkdamfbnaaGreatDoor
section
set_option maxRecDepth 100000
set_option maxHeartbeats 8000000
theorem KR{D:Nat→Prop}(l:List Int):∀x,x∈l.map (fun i=>[MV.int .i64 i])→∀m,m∈x→InD D m:=fun x hx m hm=>by
 obtain⟨i,_,rfl⟩:=List.mem_map.1 hx
 rw[List.mem_singleton] at hm
 subst hm
 exact .flat (.int _ _)
theorem IA{D:Nat→Prop}(x:ND):∀m,m∈x.c→InD D m:=fun m hm=>by
 simp only[ND.c,List.mem_cons,List.not_mem_nil,or_false] at hm
 rcases hm with rfl|rfl|rfl|rfl|rfl<;>first|exact .flat (.int _ _)|exact .flat (.str _)
theorem Iz{D:Nat→Prop}(x:ND):InD D (xF x):=by
 unfold xF xE
 refine .fn (fun m hm=>by cases hm) fun m hm=>?_
 split at hm
 ·rw[List.mem_singleton] at hm
  subst hm
  exact .cptr (IA x)
 ·cases hm
theorem rX{D:Nat→Prop}:∀t:T,InD D (iT t)
 | .leaf x=>Iz x
 | .one _ a=>.fn (fun m hm=>by cases hm) fun m hm=>by
  rw[List.mem_singleton] at hm
  subst hm
  exact .cptr fun m hm=>by
   rw[List.mem_singleton] at hm
   subst hm
   exact rX a
 | .two x a b=>.fn (fun m hm=>by cases hm) fun m hm=>by
  simp only[List.mem_cons,List.not_mem_nil,or_false] at hm
  rcases hm with rfl|rfl
  ·exact .cptr fun m hm=>by
    rw[List.mem_singleton] at hm
    subst hm
    exact rX a
  ·exact .cptr fun m hm=>by
    rw[List.mem_singleton] at hm
    subst hm
    exact rX b
theorem NA{D:Nat→Prop}(x:DE):∀m,m∈x.c→InD D m:=fun m hm=>by
 simp only[DE.c,List.mem_cons,List.not_mem_nil,or_false] at hm
 rcases hm with rfl|rfl|rfl<;>exact .flat (.int _ _)
theorem NB{D:Nat→Prop}(x:GR):∀m,m∈x.c→InD D m:=fun m hm=>by
 simp only[GR.c,List.mem_cons,List.not_mem_nil,or_false] at hm
 rcases hm with rfl|rfl
 ·exact .flat (.int _ _)
 ·exact .lst (KR _)
theorem xP{B:BK}(hb:BkR B)(h3:B.gr.length≤1000000)(h4:∀g,g∈B.gr→g.mem.length≤1000000){m l q b f pb pf:Nat}(D:jP m l q b)(DI:Fq m l q b f pb pf)(ex:List (List MV)){fl:List ND}(hp:bI fl=0)(d:Bool) :
  Al Tryz.prog 95 [.ptr pb 0 0,.ptr pf 0 0] (alI m l q b B ex fl f pb pf d) (cdX (shC B fl)) (fun τ=>(alI m l q b B ex fl f pb pf (d || decide (0<B.cards.length))).le τ):=by
 refine Al.k7 27 Tryz.func95 rfl rfl rfl rfl fun C hC hspec=>?_
 have hri:=uC hb.cok hb.nx2 (by have:=hb.nc;omega)
 have hcs:=vP B.nx B.sq (.vec 3 q 0 B.dead.length) (.lst 2 (B.gr.map GR.c) false) B.cards D.lm D.bm D.bl hri
 have hgr:=tS B.sq l b B.gr h3 h4 hb.gok
 have hnc:=hb.nc
 have hxl:(cdX (shC B fl)).length=(shC B fl).length:=List.length_map _
 rw[hxl]
 obtain⟨d1,d2,d3,d4,d5,d6⟩:=D
 obtain⟨⟨f1,f2,f3,f4⟩,⟨p1,p2,p3,p4,p5⟩,⟨r1,r2,r3,r4,r5,r6⟩⟩:=DI
 have e1:=Ne.symm d1
 have e2:=Ne.symm d2
 have e3:=Ne.symm d3
 have e4:=Ne.symm d4
 have e5:=Ne.symm d5
 have e6:=Ne.symm d6
 have f1':=Ne.symm f1
 have f2':=Ne.symm f2
 have f3':=Ne.symm f3
 have f4':=Ne.symm f4
 have p1':=Ne.symm p1
 have p2':=Ne.symm p2
 have p3':=Ne.symm p3
 have p4':=Ne.symm p4
 have p5':=Ne.symm p5
 have r1':=Ne.symm r1
 have r2':=Ne.symm r2
 have r3':=Ne.symm r3
 have r4':=Ne.symm r4
 have r5':=Ne.symm r5
 have r6':=Ne.symm r6
 obtain⟨PB,hPB⟩:∃PB,PB=eY B.gr fl:=⟨_,rfl⟩
 refine fD (gH (jO ?_))
 repeat' (first|(refine iK hcs (St.aD (le2 (by simp[St.set, *]) (by simp[St.set, *])) (by simp[St.set, *])) ?_)|(with_reducible first|(refine wN fun _ hnl=>?_;revert hnl;(repeat refine wS fun _ _=>?_);intro hnl)|refine wE ?_|(refine wK ?_ ?_<;>intro h)|(refine wB ?_ ?_<;>intro h<;>simp only[h]))|simp(maxSteps:=4000000) (disch:=first|decide|assumption|omega|(simp only[wL];omega)) only[go_sem,simprocAttr,Tryz.f95])
 refine fD (nB (Cq (α:=Nat × Nat × Bool) (fun a=>⟨27,[(0,.fn (.yield C.l) [] []),(9,.int .i64 (a.1:Int)),(8,.int .i64 (B.cards.length:Int)),(7,.lst 27 (B.cards.map CA.c) false),(1,.ptr pb 0 0),(2,.ptr pf 0 0)],[]⟩) (fun a=>alI m l q b B ex fl f pb pf a.2.2) (fun a=>some a.2.1)
   (fun a=>a.1≤B.cards.length∧((B.cards.take a.1).filter PB).length=a.2.1∧a.2.2=(d || decide (0<a.1))) (fun a=>B.cards.length - a.1) ?_ ?_))
 ·refine .of (.less ?_ (St.le_refl _)) ⟨(0,0,d),rfl,rfl,rfl,Nat.zero_le _,rfl,by simp⟩
  simp(maxSteps:=4000000) (disch:=first|decide|assumption|omega|(simp only[wL];omega)) only[go_sem,simprocAttr,aC,aB]
  all_goals first|rfl|(simp;done)
 ·rintro⟨i,j,d1⟩ ⟨hi,hj,hd1⟩
  simp only at hi hj hd1 ⊢
  refine gH (jO ?_)
  repeat' (first|(with_reducible first|(refine wN fun _ hnl=>?_;revert hnl;(repeat refine wS fun _ _=>?_);intro hnl)|refine wE ?_|(refine wK ?_ ?_<;>intro h)|(refine wB ?_ ?_<;>intro h<;>simp only[h]))|simp(maxSteps:=4000000) (disch:=first|decide|assumption|omega|(simp only[wL];omega)) only[go_sem,simprocAttr])
  by_cases hlt:i<B.cards.length
  ·obtain⟨x,hx⟩:=bO B.cards hlt
   have hat:=bF (f:=CA.c) hx
   refine fD (gH (jO ?_))
   repeat' (first|(with_reducible first|(refine wN fun _ hnl=>?_;revert hnl;(repeat refine wS fun _ _=>?_);intro hnl)|refine wE ?_|(refine wK ?_ ?_<;>intro h)|(refine wB ?_ ?_<;>intro h<;>simp only[h]))|simp(maxSteps:=4000000) (disch:=first|decide|assumption|omega|(simp only[wL];omega)) only[go_sem,simprocAttr,hat])
   refine fD (gH (nB (gH (jO ?_))))
   repeat' (first|(with_reducible first|(refine wN fun _ hnl=>?_;revert hnl;(repeat refine wS fun _ _=>?_);intro hnl)|refine wE ?_|(refine wK ?_ ?_<;>intro h)|(refine wB ?_ ?_<;>intro h<;>simp only[h]))|simp(maxSteps:=4000000) (disch:=first|decide|assumption|omega|(simp only[wL];omega)) only[go_sem,simprocAttr,hat,FXs])
   have hmt:=BS hp hb.gok (x9 hb (dP hx)).1 f d1
   have hgx:=hgr x.id
   obtain⟨g,hg⟩:∃g:Int,(grB B.gr x.id:Int)=g:=⟨_,rfl⟩
   rw[hg] at hmt hgx
   rw[←hPB] at hmt
   have htk:=a8 hx
   have hsp:=mL B.cards hx
   obtain⟨sb,hsb⟩:∃sb,PB x=sb:=⟨_,rfl⟩
   rw[hsb] at hmt
   obtain⟨DK,hDK,c1,c2⟩:∃DK:b9,PlU (.these [47]) DK∧(∀ms,DK 48 ms=some ⟨[b],fun v=>v=.int .u32 g,none⟩)∧∀ms,DK 47 ms=some ⟨[f],fun _=>True,some ([flD fl true],fun _=>.bool sb)⟩ :=
    ⟨fnF [(48,⟨[b],fun v=>v=.int .u32 g,none⟩),(47,⟨[f],fun _=>True,some ([flD fl true],fun _=>.bool sb)⟩)],LF,fun _=>gZ,fun _=>AI gZ⟩
   refine fD (gH (Ex mixed [47] DK hDK [_,_,_,_,_,_,_,_,_,_] [_,_] rfl (by decide +kernel) hspec ?_))
   cases sb
   ·repeat' (first|(refine AV [b] [bV B.sq l (.lst 2 (B.gr.map GR.c) false)] (c1 _) (by simp[St.set, *]) hgx ?_)|(refine xC (c2 _) (by simp[St.set, *]) hmt ?_)|(with_reducible first|(refine wN fun _ hnl=>?_;revert hnl;(repeat refine wS fun _ _=>?_);intro hnl)|refine wE ?_|(refine wK ?_ ?_<;>intro h)|(refine wB ?_ ?_<;>intro h<;>simp only[h]))|simp(maxSteps:=4000000) (disch:=first|decide|assumption|omega|(simp only[wL];omega)) only[go_sem,simprocAttr,FXs])
    refine fD (jO ?_)
    repeat' (first|(with_reducible first|(refine wN fun _ hnl=>?_;revert hnl;(repeat refine wS fun _ _=>?_);intro hnl)|refine wE ?_|(refine wK ?_ ?_<;>intro h)|(refine wB ?_ ?_<;>intro h<;>simp only[h]))|simp(maxSteps:=4000000) (disch:=first|decide|assumption|omega|(simp only[wL];omega)) only[go_sem,simprocAttr])
    refine fD (jO ?_)
    repeat' (first|(with_reducible first|(refine wN fun _ hnl=>?_;revert hnl;(repeat refine wS fun _ _=>?_);intro hnl)|refine wE ?_|(refine wK ?_ ?_<;>intro h)|(refine wB ?_ ?_<;>intro h<;>simp only[h]))|simp(maxSteps:=4000000) (disch:=first|decide|assumption|omega|(simp only[wL];omega)) only[go_sem,simprocAttr])
    refine .of (.less ?_ (sV (by simp only[aX];exact⟨by assumption,by assumption,by assumption,by assumption,by assumption,by assumption,by assumption,rfl⟩))) ⟨(i+1,j,true),rfl,rfl,rfl,⟨by simp only;omega,?_,by simp⟩,by simp only;omega⟩
    ·simp(maxSteps:=4000000) (disch:=first|decide|assumption|omega|(simp only[wL];omega)) only[go_sem,simprocAttr,aC,aB]
     all_goals first|rfl|(simp;done)
    ·simp only
     rw[htk,List.filter_append,List.length_append,hj]
     simp[hsb]
   ·repeat' (first|(refine AV [b] [bV B.sq l (.lst 2 (B.gr.map GR.c) false)] (c1 _) (by simp[St.set, *]) hgx ?_)|(refine xC (c2 _) (by simp[St.set, *]) hmt ?_)|(with_reducible first|(refine wN fun _ hnl=>?_;revert hnl;(repeat refine wS fun _ _=>?_);intro hnl)|refine wE ?_|(refine wK ?_ ?_<;>intro h)|(refine wB ?_ ?_<;>intro h<;>simp only[h]))|simp(maxSteps:=4000000) (disch:=first|decide|assumption|omega|(simp only[wL];omega)) only[go_sem,simprocAttr,FXs])
    have hxs:C.xs[j]?=some [.agg x.c]:=by
     rw[hC,List.getElem?_map,shC,←hPB,hsp,List.filter_append,List.getElem?_append_right (by omega),hj,Nat.sub_self,List.filter_cons_of_pos (by simpa using hsb)]
     rfl
    refine Cp rfl hxs (tJ x) rfl ?_ ?_
    ·repeat' (first|(with_reducible first|(refine wN fun _ hnl=>?_;revert hnl;(repeat refine wS fun _ _=>?_);intro hnl)|refine wE ?_|(refine wK ?_ ?_<;>intro h)|(refine wB ?_ ?_<;>intro h<;>simp only[h]))|simp(maxSteps:=4000000) (disch:=first|decide|assumption|omega|(simp only[wL];omega)) only[go_sem,simprocAttr])
     refine fD (jO ?_)
     repeat' (first|(with_reducible first|(refine wN fun _ hnl=>?_;revert hnl;(repeat refine wS fun _ _=>?_);intro hnl)|refine wE ?_|(refine wK ?_ ?_<;>intro h)|(refine wB ?_ ?_<;>intro h<;>simp only[h]))|simp(maxSteps:=4000000) (disch:=first|decide|assumption|omega|(simp only[wL];omega)) only[go_sem,simprocAttr])
     refine fD (jO ?_)
     repeat' (first|(with_reducible first|(refine wN fun _ hnl=>?_;revert hnl;(repeat refine wS fun _ _=>?_);intro hnl)|refine wE ?_|(refine wK ?_ ?_<;>intro h)|(refine wB ?_ ?_<;>intro h<;>simp only[h]))|simp(maxSteps:=4000000) (disch:=first|decide|assumption|omega|(simp only[wL];omega)) only[go_sem,simprocAttr])
     refine .of (.less ?_ (sV (by simp only[aX];exact⟨by assumption,by assumption,by assumption,by assumption,by assumption,by assumption,by assumption,rfl⟩))) ⟨(i+1,j+1,true),rfl,rfl,rfl,⟨by simp only;omega,?_,by simp⟩,by simp only;omega⟩
     ·simp(maxSteps:=4000000) (disch:=first|decide|assumption|omega|(simp only[wL];omega)) only[go_sem,simprocAttr,aC,aB]
      all_goals first|rfl|(simp;done)
     ·simp only
      rw[htk,List.filter_append,List.length_append,hj]
      simp[hsb]
    ·repeat' (first|(with_reducible first|(refine wN fun _ hnl=>?_;revert hnl;(repeat refine wS fun _ _=>?_);intro hnl)|refine wE ?_|(refine wK ?_ ?_<;>intro h)|(refine wB ?_ ?_<;>intro h<;>simp only[h]))|simp(maxSteps:=4000000) (disch:=first|decide|assumption|omega|(simp only[wL];omega)) only[go_sem,simprocAttr])
     refine fD (jO ?_)
     repeat' (first|(with_reducible first|(refine wN fun _ hnl=>?_;revert hnl;(repeat refine wS fun _ _=>?_);intro hnl)|refine wE ?_|(refine wK ?_ ?_<;>intro h)|(refine wB ?_ ?_<;>intro h<;>simp only[h]))|simp(maxSteps:=4000000) (disch:=first|decide|assumption|omega|(simp only[wL];omega)) only[go_sem,simprocAttr])
     rw[show(d || decide (0<B.cards.length))=true by rw[decide_eq_true (by omega)];simp]
     exact⟨rfl,.inr rfl,sV (by simp only[aX];exact⟨by assumption,by assumption,by assumption,by assumption,by assumption,by assumption,by assumption,rfl⟩)⟩
  ·have:i=B.cards.length:=by omega
   subst this
   rw[List.take_length,hPB] at hj
   refine fD (gH (jO ?_))
   repeat' (first|(with_reducible first|(refine wN fun _ hnl=>?_;revert hnl;(repeat refine wS fun _ _=>?_);intro hnl)|refine wE ?_|(refine wK ?_ ?_<;>intro h)|(refine wB ?_ ?_<;>intro h<;>simp only[h]))|simp(maxSteps:=4000000) (disch:=first|decide|assumption|omega|(simp only[wL];omega)) only[go_sem,simprocAttr])
   rw[hd1]
   exact⟨rfl,.inl (by rw[←hj];rfl),St.le_refl _⟩
theorem Iy{m l q b f pb pf:Nat}{B:BK}{ex:List (List MV)}{fl:List ND}(d d0:Bool)(hex:∀x,x∈ex→∀y,y∈x→InD (fun k=>alI m l q b B ex fl f pb pf d0 k≠none) y){τ:St}(hτ:(alI m l q b B ex fl f pb pf d).le τ) :
  ∀k o,alI m l q b B ex fl f pb pf d0 k≠none→τ k=some o→InO (fun k=>alI m l q b B ex fl f pb pf d0 k≠none) o:=by
 intro k o hk ho
 obtain⟨o',ho'⟩:∃o',alI m l q b B ex fl f pb pf d k=some o':=by
  cases e:alI m l q b B ex fl f pb pf d k with
  | some o'=>exact⟨o',rfl⟩
  | none =>
   exfalso
   simp only[oL] at hk
   rw[aX] at e
   obtain⟨e1,e⟩:=e
   rw[aX] at e
   obtain⟨e2,e⟩:=e
   rw[aX] at e
   obtain⟨e3,e⟩:=e
   rw[aX] at e
   obtain⟨e4,e⟩:=e
   rw[aX] at e
   obtain⟨e5,e⟩:=e
   rw[aX] at e
   obtain⟨e6,e⟩:=e
   rw[aX] at e
   obtain⟨e7,e⟩:=e
   rcases hk with h|h|h|h|h|h|h|h
   ·exact e1 h
   ·exact e2 h
   ·exact e3 h
   ·exact e4 h
   ·exact e5 h
   ·exact e6 h
   ·exact e7 h
   ·exact h rfl
 have e:=hτ k o' ho'
 rw[ho] at e
 obtain rfl:=Option.some.inj e
 have one:∀{D:Nat→Prop} {a c:Nat} {x:MV},InD D x→InO D (.row a c [[x]]):=fun hx y hy z hz=>by
  rw[List.mem_singleton] at hy
  subst hy
  rw[List.mem_singleton] at hz
  subst hz
  exact hx
 rcases gE ho' with⟨rfl,rfl⟩|⟨_,h⟩
 ·exact one (.ptr (by simp only[oL];simp))
 rcases gE h with⟨rfl,rfl⟩|⟨_,h⟩
 ·exact one (.ptr (by simp only[oL];simp))
 rcases gE h with⟨rfl,rfl⟩|⟨_,h⟩
 ·intro y hy z hz
  rw[List.mem_singleton] at hy
  subst hy
  simp only[List.mem_cons,List.not_mem_nil,or_false] at hz
  rcases hz with rfl|rfl|rfl|rfl|rfl
  ·exact .lst fun x hx=>by
    obtain⟨n,_,rfl⟩:=List.mem_map.1 hx
    exact IA n
  ·exact .flat (.int _ _)
  ·exact .flat (.int _ _)
  ·exact .flat (.int _ _)
  ·split
   ·exact rX _
   ·exact .flat .nilfn
 rcases gE h with⟨rfl,rfl⟩|⟨_,h⟩
 ·intro y hy z hz
  rw[List.mem_singleton] at hy
  subst hy
  simp only[List.mem_cons,List.not_mem_nil,or_false] at hz
  rcases hz with rfl|rfl|rfl
  ·exact .flat (.int _ _)
  ·exact .ptr (by simp only[oL];simp)
  ·exact .lst fun x hx=>by
    obtain⟨n,_,rfl⟩:=List.mem_map.1 hx
    exact NB n
 rcases gE h with⟨rfl,rfl⟩|⟨_,h⟩
 ·intro y hy
  rcases List.mem_append.1 hy with hy|hy
  ·obtain⟨n,_,rfl⟩:=List.mem_map.1 hy
   exact NA n
  ·exact hex y hy
 rcases gE h with⟨rfl,rfl⟩|⟨_,h⟩
 ·intro y hy z hz
  rw[List.mem_singleton] at hy
  subst hy
  simp only[List.mem_cons,List.not_mem_nil,or_false] at hz
  rcases hz with rfl|rfl|rfl
  ·exact .flat (.int _ _)
  ·exact .mapv (by simp only[oL];simp)
  ·exact .vec (by simp only[oL];simp)
 rcases gE h with⟨rfl,rfl⟩|⟨_,h⟩
 ·intro z hz
  obtain⟨c,_,rfl⟩:=List.mem_map.1 hz
  exact⟨.flat (.int _ _),.of (tJ c _ (List.mem_singleton.2 rfl))⟩
 ·cases h
end

section
set_option maxRecDepth 100000
set_option maxHeartbeats 8000000
theorem xO(b f:Nat):aA Tryz.prog 52 [.ptr b 0 0,.ptr f 0 0] St.none (fun v σ'=>∃m l,l≠m∧v=.fn (.func 95) [] [.ptr m 0 0,.ptr l 0 0]∧σ'=(St.none.set m (.row 33 1 [[.ptr b 0 0]])).set l (.row 36 1 [[.ptr f 0 0]])):=by
 refine(aA.body 6 [.tmp 4] Tryz.func52 rfl rfl rfl rfl ?_)
 repeat' (first|(with_reducible first|(refine wN fun _ hnl=>?_;revert hnl;(repeat refine wS fun _ _=>?_);intro hnl)|refine wE ?_|(refine wK ?_ ?_<;>intro h)|(refine wB ?_ ?_<;>intro h<;>simp only[h]))|simp(maxSteps:=4000000) (disch:=first|exact ddL|fail) only[go_sem,simprocAttr,Tryz.f52])
 all_goals exact⟨_,_,by assumption,rfl,rfl⟩
theorem C9{B:BK}(hb:BkR B){fl:List ND}{mk:UInt32}{cur:Int}{j:Nat}(hj:j≤(shC B fl).length)(h1:∀c,c∈(shC B fl).take j→c.id≤cur)(h2:j=(shC B fl).length∨∃c,(shC B fl)[j]?=some c∧cur<c.id) :
  eX B fl mk cur=((shC B fl).take j).map fun c=>gM c mk:=by
 unfold eX
 have e:B.cards.filter (fun c=>decide (c.id≤cur)&&eY B.gr fl c)=(shC B fl).filter fun c=>decide (c.id≤cur):=by rw[shC,List.filter_filter]
 rw[e]
 congr 1
 have hr:=(pG hb fl).1
 obtain⟨L,hL⟩:∃L,shC B fl=L:=⟨_,rfl⟩
 rw[hL] at hj h1 h2 hr ⊢
 conv=>lhs;rw[←List.take_append_drop j L]
 rw[List.filter_append,List.filter_eq_self.2 (fun c hc=>by simpa using h1 c hc),List.filter_eq_nil_iff.2,List.append_nil]
 intro c hc
 rcases h2 with h2|⟨d,hd,hlt⟩
 ·rw[h2,List.drop_length] at hc;cases hc
 ·rw[dZ hd] at hc
  rcases List.mem_cons.1 hc with rfl|hc
  ·simp;omega
  ·have hsp:=mL L hd
   rw[hsp,List.pairwise_append] at hr
   have:=(List.pairwise_cons.1 hr.2.1).1 c hc
   simp;omega
abbrev idS(n1 n2 n3 q:Nat)(mk:UInt32)(cur:Int)(j:Nat)(R:List (List MV))(ex:List (List MV)):St:=(((St.none.set n1 (.row 28 1 [[.int .u32 (mk.toNat:Int)]])).set n2 (.row 3 1 [[.int .i64 cur]])).set n3 (.row 22 1 [[.vec 27 q 0 j]])).set q (.row 42 27 (R++ex))
end

section
open Go.Shelf Go.RowKit Go.Lib
set_option maxRecDepth 100000
set_option maxHeartbeats 8000000
theorem CQ(a:Addr)(c:Nat)(w:World):Calls Tryz.prog 147 #[.slice (some a) 0 c] w fun e w'=>e=.returned (.slice (some ⟨w.heap.size,0,none⟩) 0 0)∧w'=w.alloc (.cells #[] 94):=by
 have q22:∀(w:World) (a:Option Addr) (n c n' c':Nat),(binOp .eql 24 (.slice a n c) (.slice none n' c')).run Tryz.prog w=.ok (.bool a.isNone) w:=fun w a n c n' c'=>Lib.run_eql_slice_nil w _ _ a n c n' c' Tryz.underlying24
 have u22:∀w,Sem.run Tryz.prog (underlying 24) w=.ok (TypeDesc.slice 94) w:=run_underlying Tryz.underlying24
 go_enter Tryz.func147,Tryz.ntmps147
 go_wp2
 go_ret
 exact⟨rfl,rfl⟩
theorem Av:aA Tryz.prog 147 [.bC] St.none (fun r _=>r=.bC):=by
 refine(aA.body 8 [.tmp 2] Tryz.func147 rfl rfl rfl rfl ?_)
 repeat' (first|(with_reducible first|(refine wN fun _ hnl=>?_;revert hnl;(repeat refine wS fun _ _=>?_);intro hnl)|refine wE ?_|(refine wK ?_ ?_<;>intro h)|(refine wB ?_ ?_<;>intro h<;>simp only[h]))|simp(maxSteps:=4000000) (disch:=first|exact ddL|fail) only[go_sem,simprocAttr,Tryz.f147])
theorem yC(e:Nat)(t tr:Bool):aA Tryz.prog 147 [.lst e [] t] St.none (fun r _=>r=.lst e [] tr):=jV Av CQ
theorem u6(e:Nat)(t tr:Bool):aA Tryz.prog 43 [.lst e [] t] St.none (fun r _=>r=.lst e [] tr):=jV qV sH
theorem CP(x:GR)(l:List GR)(hl:l.length+1≤1000000)(t:Bool):aA Tryz.prog 147 [.lst 2 ((x::l).map GR.c) t] St.none (fun r σ'=>∃q,r=.vec 2 q 0 (l.length+1)∧σ'=St.none.set q (.row 94 2 ((x::l).map GR.c))):=by
 refine(aA.body 8 [.tmp 2] Tryz.func147 rfl rfl rfl rfl ?_)
 repeat' (first|(with_reducible first|(refine wN fun _ hnl=>?_;revert hnl;(repeat refine wS fun _ _=>?_);intro hnl)|refine wE ?_|(refine wK ?_ ?_<;>intro h)|(refine wB ?_ ?_<;>intro h<;>simp only[h]))|simp(maxSteps:=4000000) (disch:=first|exact ddL|fail) only[go_sem,simprocAttr,Tryz.f147])
 all_goals exact⟨_,rfl,rfl⟩
theorem vS(t tr:Bool):aA Tryz.prog 151 [.lst 2 [] t] St.none (fun r _=>r=.lst 2 [] tr):=by
 refine(aA.body 24 [.tmp 2] Tryz.func151 rfl rfl rfl rfl ?_)
 have h:=yC 2 t tr
 repeat' (first|(refine aK h ?_)|(with_reducible first|(refine wN fun _ hnl=>?_;revert hnl;(repeat refine wS fun _ _=>?_);intro hnl)|refine wE ?_|(refine wK ?_ ?_<;>intro h)|(refine wB ?_ ?_<;>intro h<;>simp only[h]))|simp(maxSteps:=4000000) (disch:=first|exact ddL|fail) only[go_sem,simprocAttr,Tryz.f151])
 refine aH (α:=Unit) (fun _=>⟨24,[(9,.int .i64 0),(8,.int .i64 0),(3,.lst 2 [] tr)],[]⟩) (fun _=>St.none) (fun _=>True) (fun _=>0) (.of (.less ?_ (St.le_refl _)) ⟨(),rfl,rfl,trivial⟩) ?_
 ·simp(maxSteps:=4000000) (disch:=first|exact ddL|fail) only[go_sem,simprocAttr,aC,aB]
  all_goals first|rfl|(simp;done)
 ·intro _ _
  repeat' (first|(with_reducible first|(refine wN fun _ hnl=>?_;revert hnl;(repeat refine wS fun _ _=>?_);intro hnl)|refine wE ?_|(refine wK ?_ ?_<;>intro h)|(refine wB ?_ ?_<;>intro h<;>simp only[h]))|simp(maxSteps:=4000000) (disch:=first|exact ddL|fail) only[go_sem,simprocAttr])
theorem zS(x:GR)(l:List GR)(hl:l.length+1≤1000000)(hm:∀g,g∈x::l→g.mem.length≤1000000)(t:Bool):aA Tryz.prog 151 [.lst 2 ((x::l).map GR.c) t] St.none (fun r σ'=>∃q,r=.vec 2 q 0 (l.length+1)∧σ'=St.none.set q (.row 94 2 ((x::l).map GR.c))):=by
 refine(aA.body 24 [.tmp 2] Tryz.func151 rfl rfl rfl rfl ?_)
 have h:=CP x l hl t
 obtain⟨L,hL⟩:∃L,x::l=L:=⟨_,rfl⟩
 have hLl:L.length=l.length+1:=by rw[←hL];rfl
 obtain⟨n,hn⟩:∃n,l.length+1=n:=⟨_,rfl⟩
 rw[hL] at h hm ⊢
 rw[hn] at h hLl hl ⊢
 have hml:(L.map GR.c).length=n:=by rw[List.length_map,hLl]
 repeat' (first|((refine lH h ?_;intro q hq))|(with_reducible first|(refine wN fun _ hnl=>?_;revert hnl;(repeat refine wS fun _ _=>?_);intro hnl)|refine wE ?_|(refine wK ?_ ?_<;>intro h)|(refine wB ?_ ?_<;>intro h<;>simp only[h]))|simp(maxSteps:=4000000) (disch:=first|exact ddL|fail) only[go_sem,simprocAttr,Tryz.f151])
 refine aH (α:=Nat) (fun i=>⟨24,[(9,.int .i64 (i:Int)),(8,.int .i64 (n:Int)),(3,.vec 2 q 0 n)],[]⟩) (fun i=>St.none.set q (.row 94 2 (L.map GR.c))) (fun i=>i≤n) (fun i=>n - i) (.of (.less ?_ (St.le_refl _)) ⟨0,rfl,rfl,Nat.zero_le _⟩) ?_
 ·simp(maxSteps:=4000000) (disch:=first|exact ddL|fail) only[go_sem,simprocAttr,aC,aB]
  all_goals first|rfl|(simp;done)
 ·intro i hi
  have hi:i≤n:=hi
  by_cases hlt:i<n
  ·obtain⟨y,hy⟩:=bO L (show i<L.length by omega)
   have hat:=bF (f:=GR.c) hy
   have hcl:=qU y.mem (hm y (dP hy)) false
   have hset:(L.map GR.c).set i y.c=L.map GR.c:=by
    have h0:=List.getElem?_eq_some_iff.1 hy
    obtain⟨h1,h2⟩:=h0
    refine List.ext_getElem (by simp) fun j h3 h4=>?_
    rw[List.getElem_set]
    split
    ·rename_i e;subst e;simp[h2]
    ·rfl
   repeat' (first|(with_reducible first|refine up hcl ?_)|(with_reducible first|(refine wN fun _ hnl=>?_;revert hnl;(repeat refine wS fun _ _=>?_);intro hnl)|refine wE ?_|(refine wK ?_ ?_<;>intro h)|(refine wB ?_ ?_<;>intro h<;>simp only[h]))|simp(maxSteps:=4000000) (disch:=first|exact ddL|fail) only[go_sem,simprocAttr,hat,hml,hset])
   all_goals (try (exfalso;omega))
   all_goals
    refine .of (.less ?_ (St.le_refl _)) ⟨i+1,rfl,rfl,(by omega:i+1≤n),by omega⟩
    simp(maxSteps:=4000000) (disch:=first|exact ddL|fail) only[go_sem,simprocAttr,aC,aB]
    all_goals first|rfl|(simp;done)
  ·have:i=n:=by omega
   subst this
   repeat' (first|(with_reducible first|(refine wN fun _ hnl=>?_;revert hnl;(repeat refine wS fun _ _=>?_);intro hnl)|refine wE ?_|(refine wK ?_ ?_<;>intro h)|(refine wB ?_ ?_<;>intro h<;>simp only[h]))|simp(maxSteps:=4000000) (disch:=first|exact ddL|fail) only[go_sem,simprocAttr])
   all_goals (try (exfalso;omega))
   all_goals exact⟨_,rfl,rfl⟩
theorem D5{v:Nat}(y:List MV)(hy:∃g,y=[.int .i64 g,.bC]):aA Tryz.prog 150 [.lst 2 [] true,.int .i64 0,.vec 2 v 0 1] (St.none.set v (.row 94 2 [y])) (fun r σ'=>∃q,r=.vec 2 q 0 1∧σ'=St.none.set q (.row 94 2 [y])):=by
 obtain⟨g,rfl⟩:=hy
 refine aA.cI (aA.body 95 [.tmp 6] Tryz.func150 rfl rfl rfl rfl ?_)
 repeat' (first|(with_reducible first|(refine wN fun _ hnl=>?_;revert hnl;(repeat refine wS fun _ _=>?_);intro hnl)|refine wE ?_|(refine wK ?_ ?_<;>intro h)|(refine wB ?_ ?_<;>intro h<;>simp only[h]))|simp(maxSteps:=4000000) (disch:=first|exact ddL|fail) only[go_sem,simprocAttr,Tryz.f150])
 exact⟨_,St.aD (St.none_le _) (aF _ _ _),_,rfl,rfl⟩
theorem D6{v:Nat}(x:Int):aA Tryz.prog 191 [.lst 1 [] true,.int .i64 0,.vec 1 v 0 1] (St.none.set v (.row 3 1 [aJ x])) (fun r σ'=>r=.lst 1 [aJ x] false∧σ'=St.none):=by
 refine aA.Fi (aA.body 95 [.tmp 6] Tryz.func191 rfl rfl rfl rfl ?_)
 repeat' (first|(with_reducible first|(refine wN fun _ hnl=>?_;revert hnl;(repeat refine wS fun _ _=>?_);intro hnl)|refine wE ?_|(refine wK ?_ ?_<;>intro h)|(refine wB ?_ ?_<;>intro h<;>simp only[h]))|simp(maxSteps:=4000000) (disch:=first|exact ddL|fail) only[go_sem,simprocAttr,Tryz.f191])
 exact⟨_,St.aD (St.none_le _) (aF _ _ _),St.none_le _,fun k o hk=>hk.elim,View.vecAll (aF _ _ _) rfl⟩
end
end Go.Proofs.YtaojijkdamfbnaaGreatDoor
