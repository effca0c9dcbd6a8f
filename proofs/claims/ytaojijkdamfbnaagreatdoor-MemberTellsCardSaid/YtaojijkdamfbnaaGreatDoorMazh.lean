/- Parts of the proof, joined; conditions: those that its theorems name. -/
import Derived.Test.YtaojijkdamfbnaaGreatDoorMazf
set_option linter.unusedVariables false
set_option linter.unusedSimpArgs false
set_option maxHeartbeats 4000000
namespace Go.Proofs.YtaojijkdamfbnaaGreatDoor
section
set_option maxRecDepth 100000
set_option maxHeartbeats 8000000
theorem Lo{D:Nat→Prop}(l:List Int):∀x,x∈l.map (fun i=>[MV.int .i64 i])→∀m,m∈x→InD D m:=fun x hx m hm=>by
 obtain⟨i,_,rfl⟩:=List.mem_map.1 hx
 rw[List.mem_singleton] at hm
 subst hm
 exact .flat (.int _ _)
theorem I4{D:Nat→Prop}(x:ND):∀m,m∈x.c→InD D m:=fun m hm=>by
 simp only[ND.c,List.mem_cons,List.not_mem_nil,or_false] at hm
 rcases hm with rfl|rfl|rfl|rfl|rfl<;>first|exact .flat (.int _ _)|exact .flat (.str _)
theorem I3{D:Nat→Prop}(x:ND):InD D (x0 x):=by
 unfold x0 xZ
 refine .fn (fun m hm=>by cases hm) fun m hm=>?_
 split at hm
 ·rw[List.mem_singleton] at hm
  subst hm
  exact .cptr (I4 x)
 ·cases hm
theorem sO{D:Nat→Prop}:∀t:T,InD D (jB t)
 | .leaf x=>I3 x
 | .one _ a=>.fn (fun m hm=>by cases hm) fun m hm=>by
  rw[List.mem_singleton] at hm
  subst hm
  exact .cptr fun m hm=>by
   rw[List.mem_singleton] at hm
   subst hm
   exact sO a
 | .two x a b=>.fn (fun m hm=>by cases hm) fun m hm=>by
  simp only[List.mem_cons,List.not_mem_nil,or_false] at hm
  rcases hm with rfl|rfl
  ·exact .cptr fun m hm=>by
    rw[List.mem_singleton] at hm
    subst hm
    exact sO a
  ·exact .cptr fun m hm=>by
    rw[List.mem_singleton] at hm
    subst hm
    exact sO b
theorem MF{D:Nat→Prop}(x:DE):∀m,m∈x.c→InD D m:=fun m hm=>by
 simp only[DE.c,List.mem_cons,List.not_mem_nil,or_false] at hm
 rcases hm with rfl|rfl|rfl<;>exact .flat (.int _ _)
theorem MG{D:Nat→Prop}(x:GR):∀m,m∈x.c→InD D m:=fun m hm=>by
 simp only[GR.c,List.mem_cons,List.not_mem_nil,or_false] at hm
 rcases hm with rfl|rfl
 ·exact .flat (.int _ _)
 ·exact .lst (Lo _)
theorem yI{B:BK}(hb:BkR B)(h3:B.gr.length≤1000000)(h4:∀g,g∈B.gr→g.mem.length≤1000000){m l q b f pb pf:Nat}(D:iT m l q b)(DI:FV m l q b f pb pf)(ex:List (List MV)){fl:List ND}(hp:b9 fl=0)(d:Bool) :
  l5 Tryz.prog 95 [.ptr pb 0 0,.ptr pf 0 0] (alI m l q b B ex fl f pb pf d) (cdX (shC B fl)) (fun τ=>(alI m l q b B ex fl f pb pf (d || decide (0<B.cards.length))).le τ):=by
 refine l5.jI 27 Tryz.func95 rfl rfl rfl rfl fun C hC hspec=>?_
 have hri:=oX hb.cok hb.nx2 (by have:=hb.nc;omega)
 have hcs:=oF B.nx B.sq (.vec 3 q 0 B.dead.length) (.lst 2 (B.gr.map GR.c) false) B.cards D.lm D.bm D.bl hri
 have hgr:=gO B.sq l b B.gr h3 h4 hb.gok
 have hnc:=hb.nc
 have hxl:(cdX (shC B fl)).length=(shC B fl).length:=List.length_map _
 rw[hxl]
 obtain⟨d1,d2,d3,d4,d5,d6⟩:=D
 obtain⟨⟨f1,f2,f3,f4⟩,⟨p1,p2,p3,p4,p5⟩,⟨r1,r2,r3,r4,r5,r6⟩⟩:=DI
 have e1:=Ne.symm d1
 have e2:=Ne.symm d2
 have e3:=Ne.symm d3
 have e4:=Ne.symm d4
 have e5:=Ne.symm d5
 have e6:=Ne.symm d6
 have f1':=Ne.symm f1
 have f2':=Ne.symm f2
 have f3':=Ne.symm f3
 have f4':=Ne.symm f4
 have p1':=Ne.symm p1
 have p2':=Ne.symm p2
 have p3':=Ne.symm p3
 have p4':=Ne.symm p4
 have p5':=Ne.symm p5
 have r1':=Ne.symm r1
 have r2':=Ne.symm r2
 have r3':=Ne.symm r3
 have r4':=Ne.symm r4
 have r5':=Ne.symm r5
 have r6':=Ne.symm r6
 obtain⟨PB,hPB⟩:∃PB,PB=cU B.gr fl:=⟨_,rfl⟩
 refine dH (cJ (eN ?_))
 repeat' (first|(refine eD hcs (St.aG (le2 (by simp[St.set, *]) (by simp[St.set, *])) (by simp[St.set, *])) ?_)|(with_reducible first|(refine wN fun _ hnl=>?_;revert hnl;(repeat refine wS fun _ _=>?_);intro hnl)|refine wE ?_|(refine wK ?_ ?_<;>intro h)|(refine wB ?_ ?_<;>intro h<;>simp only[h]))|simp(maxSteps:=4000000) (disch:=first|decide|assumption|omega|(simp only[wL];omega)) only[go_sem,simprocAttr,Tryz.f95])
 refine dH (iD (qE (α:=Nat × Nat × Bool) (fun a=>⟨27,[(0,.fn (.yield C.l) [] []),(9,.int .i64 (a.1:Int)),(8,.int .i64 (B.cards.length:Int)),(7,.lst 27 (B.cards.map CA.c) false),(1,.ptr pb 0 0),(2,.ptr pf 0 0)],[]⟩) (fun a=>alI m l q b B ex fl f pb pf a.2.2) (fun a=>some a.2.1)
   (fun a=>a.1≤B.cards.length∧((B.cards.take a.1).filter PB).length=a.2.1∧a.2.2=(d || decide (0<a.1))) (fun a=>B.cards.length - a.1) ?_ ?_))
 ·refine .of (.less ?_ (St.le_refl _)) ⟨(0,0,d),rfl,rfl,rfl,Nat.zero_le _,rfl,by simp⟩
  simp(maxSteps:=4000000) (disch:=first|decide|assumption|omega|(simp only[wL];omega)) only[go_sem,simprocAttr,aC,aB]
  all_goals first|rfl|(simp;done)
 ·rintro⟨i,j,d1⟩ ⟨hi,hj,hd1⟩
  simp only at hi hj hd1 ⊢
  refine cJ (eN ?_)
  repeat' (first|(with_reducible first|(refine wN fun _ hnl=>?_;revert hnl;(repeat refine wS fun _ _=>?_);intro hnl)|refine wE ?_|(refine wK ?_ ?_<;>intro h)|(refine wB ?_ ?_<;>intro h<;>simp only[h]))|simp(maxSteps:=4000000) (disch:=first|decide|assumption|omega|(simp only[wL];omega)) only[go_sem,simprocAttr])
  by_cases hlt:i<B.cards.length
  ·obtain⟨x,hx⟩:=bO B.cards hlt
   have hat:=bH (f:=CA.c) hx
   refine dH (cJ (eN ?_))
   repeat' (first|(with_reducible first|(refine wN fun _ hnl=>?_;revert hnl;(repeat refine wS fun _ _=>?_);intro hnl)|refine wE ?_|(refine wK ?_ ?_<;>intro h)|(refine wB ?_ ?_<;>intro h<;>simp only[h]))|simp(maxSteps:=4000000) (disch:=first|decide|assumption|omega|(simp only[wL];omega)) only[go_sem,simprocAttr,hat])
   refine dH (cJ (iD (cJ (eN ?_))))
   repeat' (first|(with_reducible first|(refine wN fun _ hnl=>?_;revert hnl;(repeat refine wS fun _ _=>?_);intro hnl)|refine wE ?_|(refine wK ?_ ?_<;>intro h)|(refine wB ?_ ?_<;>intro h<;>simp only[h]))|simp(maxSteps:=4000000) (disch:=first|decide|assumption|omega|(simp only[wL];omega)) only[go_sem,simprocAttr,hat,FXs])
   have hmt:=rU hp hb.gok (pG hb (dS hx)).1 f d1
   have hgx:=hgr x.id
   obtain⟨g,hg⟩:∃g:Int,(grB B.gr x.id:Int)=g:=⟨_,rfl⟩
   rw[hg] at hmt hgx
   rw[←hPB] at hmt
   have htk:=bB hx
   have hsp:=kX B.cards hx
   obtain⟨sb,hsb⟩:∃sb,PB x=sb:=⟨_,rfl⟩
   rw[hsb] at hmt
   obtain⟨DK,hDK,c1,c2⟩:∃DK:bT,PlU (.these [47]) DK∧(∀ms,DK 48 ms=some ⟨[b],fun v=>v=.int .u32 g,none⟩)∧∀ms,DK 47 ms=some ⟨[f],fun _=>True,some ([flD fl true],fun _=>.bool sb)⟩ :=
    ⟨fnF [(48,⟨[b],fun v=>v=.int .u32 g,none⟩),(47,⟨[f],fun _=>True,some ([flD fl true],fun _=>.bool sb)⟩)],sQ,fun _=>bN,fun _=>bE bN⟩
   refine dH (cJ (vN mixed [47] DK hDK [_,_,_,_,_,_,_,_,_,_] [_,_] rfl (by decide +kernel) hspec ?_))
   cases sb
   ·repeat' (first|(refine kR [b] [bJ B.sq l (.lst 2 (B.gr.map GR.c) false)] (c1 _) (by simp[St.set, *]) hgx ?_)|(refine nM (c2 _) (by simp[St.set, *]) hmt ?_)|(with_reducible first|(refine wN fun _ hnl=>?_;revert hnl;(repeat refine wS fun _ _=>?_);intro hnl)|refine wE ?_|(refine wK ?_ ?_<;>intro h)|(refine wB ?_ ?_<;>intro h<;>simp only[h]))|simp(maxSteps:=4000000) (disch:=first|decide|assumption|omega|(simp only[wL];omega)) only[go_sem,simprocAttr,FXs])
    refine dH (eN ?_)
    repeat' (first|(with_reducible first|(refine wN fun _ hnl=>?_;revert hnl;(repeat refine wS fun _ _=>?_);intro hnl)|refine wE ?_|(refine wK ?_ ?_<;>intro h)|(refine wB ?_ ?_<;>intro h<;>simp only[h]))|simp(maxSteps:=4000000) (disch:=first|decide|assumption|omega|(simp only[wL];omega)) only[go_sem,simprocAttr])
    refine dH (eN ?_)
    repeat' (first|(with_reducible first|(refine wN fun _ hnl=>?_;revert hnl;(repeat refine wS fun _ _=>?_);intro hnl)|refine wE ?_|(refine wK ?_ ?_<;>intro h)|(refine wB ?_ ?_<;>intro h<;>simp only[h]))|simp(maxSteps:=4000000) (disch:=first|decide|assumption|omega|(simp only[wL];omega)) only[go_sem,simprocAttr])
    refine .of (.less ?_ (cQ (by simp only[aQ];exact⟨by assumption,by assumption,by assumption,by assumption,by assumption,by assumption,by assumption,rfl⟩))) ⟨(i+1,j,true),rfl,rfl,rfl,⟨by simp only;omega,?_,by simp⟩,by simp only;omega⟩
    ·simp(maxSteps:=4000000) (disch:=first|decide|assumption|omega|(simp only[wL];omega)) only[go_sem,simprocAttr,aC,aB]
     all_goals first|rfl|(simp;done)
    ·simp only
     rw[htk,List.filter_append,List.length_append,hj]
     simp[hsb]
   ·repeat' (first|(refine kR [b] [bJ B.sq l (.lst 2 (B.gr.map GR.c) false)] (c1 _) (by simp[St.set, *]) hgx ?_)|(refine nM (c2 _) (by simp[St.set, *]) hmt ?_)|(with_reducible first|(refine wN fun _ hnl=>?_;revert hnl;(repeat refine wS fun _ _=>?_);intro hnl)|refine wE ?_|(refine wK ?_ ?_<;>intro h)|(refine wB ?_ ?_<;>intro h<;>simp only[h]))|simp(maxSteps:=4000000) (disch:=first|decide|assumption|omega|(simp only[wL];omega)) only[go_sem,simprocAttr,FXs])
    have hxs:C.xs[j]?=some [.agg x.c]:=by
     rw[hC,List.getElem?_map,shC,←hPB,hsp,List.filter_append,List.getElem?_append_right (by omega),hj,Nat.sub_self,List.filter_cons_of_pos (by simpa using hsb)]
     rfl
    refine CR rfl hxs (oU x) rfl ?_ ?_
    ·repeat' (first|(with_reducible first|(refine wN fun _ hnl=>?_;revert hnl;(repeat refine wS fun _ _=>?_);intro hnl)|refine wE ?_|(refine wK ?_ ?_<;>intro h)|(refine wB ?_ ?_<;>intro h<;>simp only[h]))|simp(maxSteps:=4000000) (disch:=first|decide|assumption|omega|(simp only[wL];omega)) only[go_sem,simprocAttr])
     refine dH (eN ?_)
     repeat' (first|(with_reducible first|(refine wN fun _ hnl=>?_;revert hnl;(repeat refine wS fun _ _=>?_);intro hnl)|refine wE ?_|(refine wK ?_ ?_<;>intro h)|(refine wB ?_ ?_<;>intro h<;>simp only[h]))|simp(maxSteps:=4000000) (disch:=first|decide|assumption|omega|(simp only[wL];omega)) only[go_sem,simprocAttr])
     refine dH (eN ?_)
     repeat' (first|(with_reducible first|(refine wN fun _ hnl=>?_;revert hnl;(repeat refine wS fun _ _=>?_);intro hnl)|refine wE ?_|(refine wK ?_ ?_<;>intro h)|(refine wB ?_ ?_<;>intro h<;>simp only[h]))|simp(maxSteps:=4000000) (disch:=first|decide|assumption|omega|(simp only[wL];omega)) only[go_sem,simprocAttr])
     refine .of (.less ?_ (cQ (by simp only[aQ];exact⟨by assumption,by assumption,by assumption,by assumption,by assumption,by assumption,by assumption,rfl⟩))) ⟨(i+1,j+1,true),rfl,rfl,rfl,⟨by simp only;omega,?_,by simp⟩,by simp only;omega⟩
     ·simp(maxSteps:=4000000) (disch:=first|decide|assumption|omega|(simp only[wL];omega)) only[go_sem,simprocAttr,aC,aB]
      all_goals first|rfl|(simp;done)
     ·simp only
      rw[htk,List.filter_append,List.length_append,hj]
      simp[hsb]
    ·repeat' (first|(with_reducible first|(refine wN fun _ hnl=>?_;revert hnl;(repeat refine wS fun _ _=>?_);intro hnl)|refine wE ?_|(refine wK ?_ ?_<;>intro h)|(refine wB ?_ ?_<;>intro h<;>simp only[h]))|simp(maxSteps:=4000000) (disch:=first|decide|assumption|omega|(simp only[wL];omega)) only[go_sem,simprocAttr])
     refine dH (eN ?_)
     repeat' (first|(with_reducible first|(refine wN fun _ hnl=>?_;revert hnl;(repeat refine wS fun _ _=>?_);intro hnl)|refine wE ?_|(refine wK ?_ ?_<;>intro h)|(refine wB ?_ ?_<;>intro h<;>simp only[h]))|simp(maxSteps:=4000000) (disch:=first|decide|assumption|omega|(simp only[wL];omega)) only[go_sem,simprocAttr])
     rw[show(d || decide (0<B.cards.length))=true by rw[decide_eq_true (by omega)];simp]
     exact⟨rfl,.inr rfl,cQ (by simp only[aQ];exact⟨by assumption,by assumption,by assumption,by assumption,by assumption,by assumption,by assumption,rfl⟩)⟩
  ·have:i=B.cards.length:=by omega
   subst this
   rw[List.take_length,hPB] at hj
   refine dH (cJ (eN ?_))
   repeat' (first|(with_reducible first|(refine wN fun _ hnl=>?_;revert hnl;(repeat refine wS fun _ _=>?_);intro hnl)|refine wE ?_|(refine wK ?_ ?_<;>intro h)|(refine wB ?_ ?_<;>intro h<;>simp only[h]))|simp(maxSteps:=4000000) (disch:=first|decide|assumption|omega|(simp only[wL];omega)) only[go_sem,simprocAttr])
   rw[hd1]
   exact⟨rfl,.inl (by rw[←hj];rfl),St.le_refl _⟩
theorem I2{m l q b f pb pf:Nat}{B:BK}{ex:List (List MV)}{fl:List ND}(d d0:Bool)(hex:∀x,x∈ex→∀y,y∈x→InD (fun k=>alI m l q b B ex fl f pb pf d0 k≠none) y){τ:St}(hτ:(alI m l q b B ex fl f pb pf d).le τ) :
  ∀k o,alI m l q b B ex fl f pb pf d0 k≠none→τ k=some o→InO (fun k=>alI m l q b B ex fl f pb pf d0 k≠none) o:=by
 intro k o hk ho
 obtain⟨o',ho'⟩:∃o',alI m l q b B ex fl f pb pf d k=some o':=by
  cases e:alI m l q b B ex fl f pb pf d k with
  | some o'=>exact⟨o',rfl⟩
  | none =>
   exfalso
   simp only[j4] at hk
   rw[aQ] at e
   obtain⟨e1,e⟩:=e
   rw[aQ] at e
   obtain⟨e2,e⟩:=e
   rw[aQ] at e
   obtain⟨e3,e⟩:=e
   rw[aQ] at e
   obtain⟨e4,e⟩:=e
   rw[aQ] at e
   obtain⟨e5,e⟩:=e
   rw[aQ] at e
   obtain⟨e6,e⟩:=e
   rw[aQ] at e
   obtain⟨e7,e⟩:=e
   rcases hk with h|h|h|h|h|h|h|h
   ·exact e1 h
   ·exact e2 h
   ·exact e3 h
   ·exact e4 h
   ·exact e5 h
   ·exact e6 h
   ·exact e7 h
   ·exact h rfl
 have e:=hτ k o' ho'
 rw[ho] at e
 obtain rfl:=Option.some.inj e
 have one:∀{D:Nat→Prop} {a c:Nat} {x:MV},InD D x→InO D (.row a c [[x]]):=fun hx y hy z hz=>by
  rw[List.mem_singleton] at hy
  subst hy
  rw[List.mem_singleton] at hz
  subst hz
  exact hx
 rcases cO ho' with⟨rfl,rfl⟩|⟨_,h⟩
 ·exact one (.ptr (by simp only[j4];simp))
 rcases cO h with⟨rfl,rfl⟩|⟨_,h⟩
 ·exact one (.ptr (by simp only[j4];simp))
 rcases cO h with⟨rfl,rfl⟩|⟨_,h⟩
 ·intro y hy z hz
  rw[List.mem_singleton] at hy
  subst hy
  simp only[List.mem_cons,List.not_mem_nil,or_false] at hz
  rcases hz with rfl|rfl|rfl|rfl|rfl
  ·exact .lst fun x hx=>by
    obtain⟨n,_,rfl⟩:=List.mem_map.1 hx
    exact I4 n
  ·exact .flat (.int _ _)
  ·exact .flat (.int _ _)
  ·exact .flat (.int _ _)
  ·split
   ·exact sO _
   ·exact .flat .nilfn
 rcases cO h with⟨rfl,rfl⟩|⟨_,h⟩
 ·intro y hy z hz
  rw[List.mem_singleton] at hy
  subst hy
  simp only[List.mem_cons,List.not_mem_nil,or_false] at hz
  rcases hz with rfl|rfl|rfl
  ·exact .flat (.int _ _)
  ·exact .ptr (by simp only[j4];simp)
  ·exact .lst fun x hx=>by
    obtain⟨n,_,rfl⟩:=List.mem_map.1 hx
    exact MG n
 rcases cO h with⟨rfl,rfl⟩|⟨_,h⟩
 ·intro y hy
  rcases List.mem_append.1 hy with hy|hy
  ·obtain⟨n,_,rfl⟩:=List.mem_map.1 hy
   exact MF n
  ·exact hex y hy
 rcases cO h with⟨rfl,rfl⟩|⟨_,h⟩
 ·intro y hy z hz
  rw[List.mem_singleton] at hy
  subst hy
  simp only[List.mem_cons,List.not_mem_nil,or_false] at hz
  rcases hz with rfl|rfl|rfl
  ·exact .flat (.int _ _)
  ·exact .mapv (by simp only[j4];simp)
  ·exact .vec (by simp only[j4];simp)
 rcases cO h with⟨rfl,rfl⟩|⟨_,h⟩
 ·intro z hz
  obtain⟨c,_,rfl⟩:=List.mem_map.1 hz
  exact⟨.flat (.int _ _),.of (oU c _ (List.mem_singleton.2 rfl))⟩
 ·cases h
end

section
set_option maxRecDepth 100000
set_option maxHeartbeats 8000000
def Small(p:Prop)(r:MV):Prop:=∃b:Bool,r=.bool b∧(b=false→p)
theorem sS{p:Prop}:Small p (.bool true):=⟨true,rfl,fun h=>by cases h⟩
theorem FN{p:Prop}(h:p):Small p (.bool false):=⟨false,rfl,fun _=>h⟩
theorem KW(l:List GR)(tt:Bool):aA Tryz.prog 65 [.lst 2 (l.map GR.c) tt] St.none (fun r _=>Small (l.length≤1000000∧∀g,g∈l→g.mem.length≤1000000) r):=by
 refine aA.cD (aA.body 20 [.tmp 2] Tryz.func65 rfl rfl rfl rfl ?_)
 repeat' (first|(with_reducible first|(refine wN fun _ hnl=>?_;revert hnl;(repeat refine wS fun _ _=>?_);intro hnl)|refine wE ?_|(refine wK ?_ ?_<;>intro h)|(refine wB ?_ ?_<;>intro h<;>simp only[h]))|simp(maxSteps:=4000000) (disch:=first|exact ddL|fail) only[go_sem,simprocAttr,Tryz.f65])
 all_goals first|exact⟨_,St.le_refl _,sS⟩|skip
 refine aJ (α:=Nat) (fun i=>⟨20,[(3,.int .i64 (i:Int)),(0,.lst 2 (l.map GR.c) tt)],[]⟩) (fun _=>St.none) (fun i=>i≤l.length∧∀g,g∈l.take i→g.mem.length≤1000000) (fun i=>l.length - i) (.of (.less ?_ (St.le_refl _)) ⟨0,rfl,rfl,Nat.zero_le _,by simp⟩) ?_
 ·simp(maxSteps:=4000000) (disch:=first|exact ddL|fail) only[go_sem,simprocAttr,aC,aB]
  all_goals first|rfl|(simp;done)
 ·rintro i ⟨hi,hq⟩
  by_cases hlt:i<l.length
  ·obtain⟨x,hx⟩:=bO l hlt
   have hat:=bH (f:=GR.c) hx
   repeat' (first|(with_reducible first|(refine wN fun _ hnl=>?_;revert hnl;(repeat refine wS fun _ _=>?_);intro hnl)|refine wE ?_|(refine wK ?_ ?_<;>intro h)|(refine wB ?_ ?_<;>intro h<;>simp only[h]))|simp(maxSteps:=4000000) (disch:=first|exact ddL|fail) only[go_sem,simprocAttr,hat])
   all_goals first|exact⟨_,St.le_refl _,sS⟩|skip
   all_goals (try (exfalso;omega))
   all_goals
    refine .of (.less ?_ (St.le_refl _)) ⟨i+1,rfl,rfl,⟨by omega,fun g hg=>?_⟩,by omega⟩
    ·simp(maxSteps:=4000000) (disch:=first|exact ddL|fail) only[go_sem,simprocAttr,aC,aB]
     all_goals first|rfl|(simp;done)
    ·rw[bB hx,List.mem_append,List.mem_singleton] at hg
     rcases hg with hg|rfl
     ·exact hq g hg
     ·omega
  ·have:i=l.length:=by omega
   subst this
   rw[List.take_length] at hq
   repeat' (first|(with_reducible first|(refine wN fun _ hnl=>?_;revert hnl;(repeat refine wS fun _ _=>?_);intro hnl)|refine wE ?_|(refine wK ?_ ?_<;>intro h)|(refine wB ?_ ?_<;>intro h<;>simp only[h]))|simp(maxSteps:=4000000) (disch:=first|exact ddL|fail) only[go_sem,simprocAttr])
   all_goals exact⟨_,St.le_refl _,FN ⟨by omega,hq⟩⟩
theorem KR(B:BK):aA Tryz.prog 35 [.agg B.c] St.none (fun r _=>Small (B.cards.length≤60∧B.dead.length≤60∧B.gr.length≤1000000∧∀g,g∈B.gr→g.mem.length≤1000000) r):=by
 refine aA.cD (aA.body 33 [.tmp 2] Tryz.func35 rfl rfl rfl rfl ?_)
 have hg:=KW B.gr false
 repeat' (first|((refine iB hg ?_;rintro _ ⟨gb,rfl,hgb⟩))|(with_reducible first|(refine wT ?_;(first|((fail_if_success (have:=nl1));refine wN fun nl1 hnl=>?_)|refine wN fun _ hnl=>?_);revert hnl;(repeat refine wS fun _ _=>?_);intro hnl)|refine wE ?_|(refine wK ?_ ?_<;>intro h)|(refine wB ?_ ?_<;>intro h<;>simp only[h]))|simp(maxSteps:=4000000) (disch:=first|exact ddL|fail) only[go_sem,simprocAttr,Tryz.f35])
 all_goals first|exact⟨_,St.le_refl _,sS⟩|skip
 all_goals (try (exfalso;omega))
 all_goals
  refine aJ (α:=Nat) (fun i=>⟨33,[(3,.int .i64 (i:Int)),(1,.ptr nl1 0 0)],[]⟩) (fun _=>St.none.set nl1 (.row 26 5 [B.c])) (fun i=>i≤B.cards.length) (fun i=>B.cards.length - i) (.of (.less ?_ (St.le_refl _)) ⟨0,rfl,rfl,Nat.zero_le _⟩) ?_
  ·simp(maxSteps:=4000000) (disch:=first|exact ddL|fail) only[go_sem,simprocAttr,aC,aB]
   all_goals first|rfl|(simp;done)
  ·intro i hi
   have hi:i≤B.cards.length:=hi
   by_cases hlt:i<B.cards.length
   ·obtain⟨x,hx⟩:=bO B.cards hlt
    have hat:=bH (f:=CA.c) hx
    have hc:=Aq x.f
    repeat' (first|(with_reducible first|refine up hc ?_)|(with_reducible first|(refine wT ?_;(first|((fail_if_success (have:=nl1));refine wN fun nl1 hnl=>?_)|refine wN fun _ hnl=>?_);revert hnl;(repeat refine wS fun _ _=>?_);intro hnl)|refine wE ?_|(refine wK ?_ ?_<;>intro h)|(refine wB ?_ ?_<;>intro h<;>simp only[h]))|simp(maxSteps:=4000000) (disch:=first|exact ddL|fail) only[go_sem,simprocAttr,FXs,hat])
    all_goals first|exact⟨_,St.le_refl _,sS⟩|skip
    all_goals (try (exfalso;omega))
    all_goals
     refine .of (.less ?_ (St.le_refl _)) ⟨i+1,rfl,rfl,(by omega:i+1≤B.cards.length),by omega⟩
     simp(maxSteps:=4000000) (disch:=first|exact ddL|fail) only[go_sem,simprocAttr,aC,aB]
     all_goals first|rfl|(simp;done)
   ·have:i=B.cards.length:=by omega
    subst this
    repeat' (first|(with_reducible first|(refine wT ?_;(first|((fail_if_success (have:=nl1));refine wN fun nl1 hnl=>?_)|refine wN fun _ hnl=>?_);revert hnl;(repeat refine wS fun _ _=>?_);intro hnl)|refine wE ?_|(refine wK ?_ ?_<;>intro h)|(refine wB ?_ ?_<;>intro h<;>simp only[h]))|simp(maxSteps:=4000000) (disch:=first|exact ddL|fail) only[go_sem,simprocAttr])
    all_goals exact⟨_,St.le_refl _,FN ⟨by omega,by omega,hgb (by simp_all)⟩⟩
end
end Go.Proofs.YtaojijkdamfbnaaGreatDoor
