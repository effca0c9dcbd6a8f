/- Parts of the proof; conditions: as its theorems name them. -/
import Derived.Test.YtppdgejjmhdjhaaGreatDoorMbd
import Derived.Defers
import Derived.Laws.Pointers
import Derived.RegionTactic
import Derived.RegionCalls
set_option linter.all false
set_option maxHeartbeats 8000000
set_option maxRecDepth 100000
namespace Go.Proofs.YtppdgejjmhdjhaaGreatDoor
open List renaming take_length->aa,cons_append->ab,length_map->ac,append_nil->ad,take_succ_eq_append_getElem->ag,length_cons->al,eq_nil_of_length_eq_zero->am,length_filter_le->an,mem_singleton->ap,length_append->au,filter_append->aI
open ND renaming c->aN
open Nat renaming zero_le->a2
open Option renaming isSome_some->a3,getD_some->a4
open St renaming none->a5
open _root_.Array renaming getD_eq_getD_getElem?->a6,getElem?_eq_getElem->a7,ext->a9
open aA renaming bV->bb,seen->be
abbrev Yp:List MV:=[.int .i64 5,.int .i64 1099511627776,.int .i64 1099511627776,.int .i64 1073741824]
def IA:aA Tryz.prog 194 [] a5 (fun r _=>r=.agg Yp):=by
 refine bb (mB 2 [.cell 0 255] Tryz.func194 ?_);repeat' first|(refine wO ?_;intros)|(refine wY ?_ ?_<;>intro h)|refine aw @Tryz.f194.eq_1 ?_|exact ev @Tryz.f194.eq_1|fail
 all_goals exact lE
def Fw(t:TO):aA Tryz.prog 193 [.agg t.c] a5 (fun r _=>r=.agg t.c):=by
 refine bb (mB 12 [.cell 2 255] Tryz.func193 ?_);repeat' first|(refine wO ?_;intros)|(refine wY ?_ ?_<;>intro h)|refine aw @Tryz.f193.eq_1 ?_|exact ev @Tryz.f193.eq_1|fail
 all_goals exact lE
def TR{t:TO}(h:¬(0≤t.dev∧t.dev≤5∧0≤t.ep∧t.ep≤1099511627776∧0≤t.sq∧t.sq≤1099511627776∧0≤t.cu∧t.cu≤1073741824)):lM t=false:=by unfold lM yc jT;refine decide_eq_false fun h2=>h ?_;omega
def wP(t:TO):aA Tryz.prog 119 [.agg t.c] a5 (fun r _=>r=.bool (lM t)):=by
 refine bb (mB 29 [.tmp 2] Tryz.func119 ?_);have hp:=Fw t;have hm:=IA;repeat' first|(with_reducible first|refine up hp ?_|refine up hm ?_)|(refine wM ?_;(first|(have _:=ao)|(have _:=ak;intro ao)|(have _:=ah;intro ak)|(intro ah));intros)|refine wV ?_|(refine wY ?_ ?_<;>intro h)|refine aw @Tryz.f119.eq_1 ?_|exact ev @Tryz.f119.eq_1|fail
 have d1:ak≠ah:=bc;have d2:ao≠ah:=bc;have d3:ao≠ak:=bc;refine aG (α:=Int) (fun i=>⟨29,[(9,.int .i64 i),(4,.ptr ao 0 0),(3,.ptr ak 0 0),(1,.ptr ah 0 0)],[]⟩)
  (fun _=>((a5.set ah (.row 103 4 [t.c])).set ak (.row 255 4 [t.c])).set ao (.row 255 4 [Yp])) (fun i=>0≤i∧i≤4∧(0<i→0≤t.dev∧t.dev≤5)∧(1<i→0≤t.ep∧t.ep≤1099511627776)∧(2<i→0≤t.sq∧t.sq≤1099511627776)∧(3<i→0≤t.cu∧t.cu≤1073741824)) (fun i=>(4-i).toNat) ?_ ?_
 ·refine .of (.less ?_ ba) ⟨0,rfl,rfl,oM,oM,oM,oM,oM,oM⟩;simp(maxSteps:=4000000) (disch:=first|decide|assumption|omega|(simp only[wL];omega)) only[go_sem,simprocAttr,bE,aX]
 ·rintro i ⟨h0,h4,q0,q1,q2,q3⟩;have hi:i=0∨i=1∨i=2∨i=3∨i=4:=oM;rcases hi with rfl|rfl|rfl|rfl|rfl;case' inr.inr.inr.inr =>
   obtain⟨a0,a1⟩:=q0 br;obtain⟨b0,b1⟩:=q1 br;obtain⟨c0,c1⟩:=q2 br;obtain⟨e0,e1⟩:=q3 br
  all_goals
   repeat' first|(refine wM ?_;(first|(have _:=ao)|(have _:=ak;intro ao)|(have _:=ah;intro ak)|(intro ah));intros)|refine wV ?_|(refine wY ?_ ?_<;>intro h)|refine ed ?_|exact ll|fail
   all_goals first|refine⟨_,ba,?_⟩|refine⟨_,ba⟩|skip
  case' inr.inr.inr.inr =>
   unfold lM yc jT;exact decide_eq_decide.2 oM
  all_goals first
   |exact(TR oM).symm
   |refine .of (.less ?_ ba) ⟨1,rfl,rfl,⟨oM,oM,oM,oM,oM,oM⟩,oM⟩
   |refine .of (.less ?_ ba) ⟨2,rfl,rfl,⟨oM,oM,oM,oM,oM,oM⟩,oM⟩
   |refine .of (.less ?_ ba) ⟨3,rfl,rfl,⟨oM,oM,oM,oM,oM,oM⟩,oM⟩
   |refine .of (.less ?_ ba) ⟨4,rfl,rfl,⟨oM,oM,oM,oM,oM,oM⟩,oM⟩
  all_goals
   simp(maxSteps:=4000000) (disch:=first|decide|assumption|omega|(simp only[wL];omega)) only[go_sem,simprocAttr,bE,aX]
def J9(a b:List IT)(ta tb:Bool)(hl:a.length≤1000000):aA Tryz.prog 36 [.aj 28 (IT.ks a) ta,.aj 28 (IT.ks b) tb] a5 (fun r _=>r=.bool (decide (a=b))):=by
 refine(mB 26 [.tmp 4] Tryz.func36 ?_);by_cases hlen:a.length=b.length
 ·repeat' first|refine aw @Tryz.f36.eq_1 ?_|fail
  refine aG (α:=Nat) (fun i=>⟨26,[(5,.int .i64 (i:Int)),(0,.aj 28 (IT.ks a) ta),(1,.aj 28 (IT.ks b) tb)],[]⟩) (fun _=>a5) (fun i=>i≤a.length∧a.take i=b.take i) (fun i=>a.length-i) (.of (.less ?_ ba) ⟨0,rfl,rfl,a2 _,rfl⟩) ?_
  ·exact wW
  ·rintro i ⟨hi,hq⟩;by_cases bh:i<a.length
   ·have hm:=RQ (a.getD i it0) (b.getD i it0);have hsa:=ag (l:=a) bh;have my:i<b.length:=oM;have ug:=ag (l:=b) my;rw[←cU it0 bh] at hsa;rw[←cU it0 my] at ug;obtain⟨x,hx⟩:∃x,a.getD i it0=x:=⟨_,rfl⟩
    obtain⟨y,hy⟩:∃y,b.getD i it0=y:=⟨_,rfl⟩
    rw[hx] at hm hsa;rw[hy] at hm ug;by_cases he:x=y
    ·rw[decide_eq_true he] at hm;repeat' (first|(with_reducible first|(refine wN fun _ ec=>?_;revert ec;(repeat refine wS fun _ _=>?_);intro ec)|refine wE ?_|(refine wK ?_ ?_<;>intro h)|(refine wB ?_ ?_<;>intro h<;>simp only[h]))|simp(maxSteps:=4000000) (disch:=first|decide|assumption|omega|(simp only[wL];omega)) only[go_sem,simprocAttr,ai,cN it0,hx,hy,hm])
     refine .of (.less ?_ ba) ⟨i+1,rfl,rfl,⟨oM,by rw[hsa,ug,hq,he]⟩,oM⟩;exact wW
    ·rw[decide_eq_false he] at hm;have fg:¬a=b:=fun e=>he (by rw[←hx,←hy,e]);rw[decide_eq_false fg];repeat' (first|(with_reducible first|(refine wN fun _ ec=>?_;revert ec;(repeat refine wS fun _ _=>?_);intro ec)|refine wE ?_|(refine wK ?_ ?_<;>intro h)|(refine wB ?_ ?_<;>intro h<;>simp only[h]))|simp(maxSteps:=4000000) (disch:=first|decide|assumption|omega|(simp only[wL];omega)) only[go_sem,simprocAttr,ai,cN it0,hx,hy,hm])
     all_goals done
   ·have:i=a.length:=oM;subst this;rw[aa,hlen,aa] at hq;rw[decide_eq_true hq];repeat' first|refine ed ?_|exact ll|fail
    all_goals done
 ·rw[decide_eq_false fun e=>hlen (by rw[e])];repeat' first|refine aw @Tryz.f36.eq_1 ?_|exact ev @Tryz.f36.eq_1|fail
  all_goals (first|rfl|(exfalso;omega))
def xA(a b:PG)(hl:a.items.length≤1000000):aA Tryz.prog 51 [.agg a.c,.agg b.c] a5 (fun r _=>r=.bool (decide (a=b))):=by
 refine bb (mB 38 [.tmp 4] Tryz.func51 ?_);have hs:=J9 a.items b.items false false hl;have h1:=Dx a.fr b.fr;have h2:=Dx a.to b.to;obtain⟨bi,rq⟩:∃x,decide (a.items=b.items)=x:=⟨_,rfl⟩
 obtain⟨b1,Z2⟩:∃x,decide (a.fr=b.fr)=x:=⟨_,rfl⟩
 obtain⟨b2,me⟩:∃x,decide (a.to=b.to)=x:=⟨_,rfl⟩
 obtain⟨res,iy⟩:∃r,decide (a=b)=r:=⟨_,rfl⟩
 have e:Unit→decide (a.code=b.code∧a.reset=b.reset∧b1=true∧b2=true∧bi=true)=res:=fun _=>by rw[←iy,←Z2,←me,←rq];refine decide_eq_decide.mpr ?_;rw[WY,decide_eq_true_iff,decide_eq_true_iff,decide_eq_true_iff]
 rw[rq] at hs;rw[Z2] at h1;rw[me] at h2;rw[iy];clear iy rq Z2 me;cases b1<;>cases b2<;>cases bi;all_goals
  repeat' first|(with_reducible first|refine up hs ?_)|(refine wO ?_;intros)|(refine wY ?_ ?_<;>intro h)|refine fx @Tryz.f51.eq_1 @h1 @h2 ?_|exact tk @Tryz.f51.eq_1 @h1 @h2|fail
 all_goals first|refine⟨_,ba,?_⟩|skip
 all_goals rw[←e ()]
 all_goals clear e
 all_goals (first|(simp[*];done)|(simp_all;done)|skip)
def qZ(f:F8):Bool:=(List.range 8).any fun i=>decide (200<(f.get i).s.size)
def Fo(f:F8):aA Tryz.prog 106 [.agg (fc f)] a5 (fun r _=>r=.bool (qZ f)):=by
 refine bb (aA.body 14 [.tmp 2] Tryz.func106 rfl rfl rfl rfl ?_);repeat' (first|(with_reducible first|(refine wT ?_;(first|((fail_if_success (have:=ah));refine wN fun ah ec=>?_)|refine wN fun _ ec=>?_);revert ec;(repeat refine wS fun _ _=>?_);intro ec)|refine wE ?_|(refine wK ?_ ?_<;>intro h)|(refine wB ?_ ?_<;>intro h<;>simp only[h]))|simp(maxSteps:=4000000) (disch:=first|exact gd|fail) only[go_sem,simprocAttr,Tryz.f106,ai])
 refine aG (α:=Nat) (fun i=>⟨14,[(3,.int .i64 (i:Int)),(1,.ptr ah 0 0)],[]⟩)
  (fun _=>a5.set ah (.row 55 24 [fc f])) (fun i=>i≤8∧(List.range i).any (fun i=>decide (200<(f.get i).s.size))=false) (fun i=>8-i) (.of (.less ?_ ba) ⟨0,rfl,rfl,a2 _,rfl⟩) ?_
 ·simp(maxSteps:=4000000) (disch:=first|exact gd|fail) only[go_sem,simprocAttr,bE,aX];all_goals rfl
 ·rintro i ⟨hi,hq⟩;by_cases bh:i<8
  ·have hg:=fun d=>Eo (f:=f) (d:=d) bh;obtain⟨v,hv⟩:∃v,f.get i=v:=⟨_,rfl⟩
   rw[hv] at hg;by_cases hb:200<v.s.size
   ·have e:qZ f=true:=List.any_eq_true.2 ⟨i,List.mem_range.2 bh,by rw[hv];exact decide_eq_true hb⟩;rw[e];repeat' (first|(with_reducible first|(refine wT ?_;(first|((fail_if_success (have:=ah));refine wN fun ah ec=>?_)|refine wN fun _ ec=>?_);revert ec;(repeat refine wS fun _ _=>?_);intro ec)|refine wE ?_|(refine wK ?_ ?_<;>intro h)|(refine wB ?_ ?_<;>intro h<;>simp only[h]))|simp(maxSteps:=4000000) (disch:=first|exact gd|fail) only[go_sem,simprocAttr,ai,hg])
    all_goals first|exact⟨_,ba,rfl⟩|exact⟨_,ba⟩|(exfalso;omega)
   ·repeat' (first|(with_reducible first|(refine wT ?_;(first|((fail_if_success (have:=ah));refine wN fun ah ec=>?_)|refine wN fun _ ec=>?_);revert ec;(repeat refine wS fun _ _=>?_);intro ec)|refine wE ?_|(refine wK ?_ ?_<;>intro h)|(refine wB ?_ ?_<;>intro h<;>simp only[h]))|simp(maxSteps:=4000000) (disch:=first|exact gd|fail) only[go_sem,simprocAttr,ai,hg])
    all_goals try(exfalso;omega)
    refine .of (.less ?_ ba) ⟨i+1,rfl,rfl,⟨oM,?_⟩,oM⟩
    ·simp(maxSteps:=4000000) (disch:=first|exact gd|fail) only[go_sem,simprocAttr,bE,aX];all_goals rfl
    ·rw[List.range_succ,List.any_append,hq,List.any_cons,List.any_nil,hv,decide_eq_false hb];rfl
  ·have hie:i=8:=oM;subst hie;have e:qZ f=false:=hq;rw[e];repeat' (first|(with_reducible first|(refine wT ?_;(first|((fail_if_success (have:=ah));refine wN fun ah ec=>?_)|refine wN fun _ ec=>?_);revert ec;(repeat refine wS fun _ _=>?_);intro ec)|refine wE ?_|(refine wK ?_ ?_<;>intro h)|(refine wB ?_ ?_<;>intro h<;>simp only[h]))|simp(maxSteps:=4000000) (disch:=first|exact gd|fail) only[go_sem,simprocAttr])
   all_goals first|exact⟨_,ba,rfl⟩|exact⟨_,ba⟩
def dT{σ:St}{q:Nat}{t:TypeId}{e n:Nat}{xs ex:List (List MV)}(hq:σ q=some (.row t e (xs++ex)))(hn:n=xs.length):View σ (.vec e q 0 n) (.aj e xs false):=by subst hn;have:=View.vec (σ:=σ) (lo:=0) (n:=xs.length) hq (by rw[au];omega);rw[List.drop_zero,List.take_left] at this;exact this
def lJ(l:List Int)(tt:Bool)(hl:l.length≤1000000)(x:Int):aA Tryz.prog 158 [.aj 1 (l.map aU) tt,.int .i64 x] a5 (fun r _=>r=.bool (decide (x∈l))):=by
 refine bb (mB 18 [.tmp 4] Tryz.func158 ?_);repeat' first|refine aw @Tryz.f158.eq_1 ?_|fail
 refine aG (α:=Nat) (fun i=>⟨18,[(5,.int .i64 (i:Int)),(0,.aj 1 (l.map aU) tt),(1,.int .i64 x)],[]⟩) (fun _=>a5) (fun i=>i≤l.length∧x∉l.take i) (fun i=>l.length-i) (.of (.less ?_ ba) ⟨0,rfl,rfl,a2 _,ax⟩) ?_
 ·exact wW
 ·rintro i ⟨hi,hq⟩;by_cases bh:i<l.length
  ·obtain⟨y,hy⟩:=bX l bh;have ay:=bJ (f:=aU) hy;have mn:=List.mem_of_getElem? hy;have kx:x≠y→x∉l.take (i+1):=fun h=>by rw[aW hy,List.mem_append,ap];exact not_or.2 ⟨hq,h⟩
   by_cases he:y=x
   ·subst he;rw[decide_eq_true mn];repeat' first|refine aw @ay ?_|fail
    all_goals exact lE
   ·repeat' first|refine aw @ay ?_|fail
    all_goals try(exfalso;omega)
    all_goals
     refine .of (.less ?_ bt) ⟨i+1,rfl,rfl,⟨oM,kx (Ne.symm he)⟩,oM⟩;exact wW
  ·have:i=l.length:=oM;subst this;rw[aa] at hq;rw[decide_eq_false hq];repeat' first|refine ed ?_|fail
   all_goals exact lE
def HB{a b:List Int}{i:Nat}{x:Int}(h:a[i]?=some x):i6 (a.take (i+1)) b=i6 (a.take i) b++if x∈b then[] else[x]:=by unfold i6;rw[aW h,aI,List.filter_cons];by_cases hb:x∈b<;>simp[hb]
def KA(a b:List Int):(i6 a b).length≤a.length:=an _ _
def IV(a b:List Int)(ta tb:Bool)(ha:a.length≤1000000)(hb:b.length≤1000000):aA Tryz.prog 110 [.aj 1 (a.map aU) ta,.aj 1 (b.map aU) tb] a5 (fun r _=>r=.aj 1 ((i6 a b).map aU) false):=by
 refine be (mB 29 [.tmp 4] Tryz.func110 ?_);repeat' first|(refine wM ?_;(first|(have _:=ah)|(intro ah));intros)|refine aw @Tryz.f110.eq_1 ?_|fail
 refine aG (α:=Nat×Nat×List (List MV)) (fun s=>⟨29,[(6,.int .i64 (s.1:Int)),(5,.vec 1 s.2.1 0 (i6 (a.take s.1) b).length),(0,.aj 1 (a.map aU) ta),(1,.aj 1 (b.map aU) tb)],[]⟩)
  (fun s=>a5.set s.2.1 (.row 3 1 ((i6 (a.take s.1) b).map aU++s.2.2))) (fun s=>s.1≤a.length) (fun s=>a.length-s.1) ?_ ?_
 ·refine .of (.less ?_ ba) ⟨(0,ah,[]),rfl,by simp[i6],a2 _⟩;simp(maxSteps:=4000000) (disch:=first|decide|assumption|omega|(simp only[wL];omega)) only[go_sem,simprocAttr,bE,aX];all_goals first|rfl|(simp[i6,aX];done)
 ·rintro⟨i,q,ex⟩ hi;simp only at hi ⊢;by_cases bh:i<a.length
  ·obtain⟨x,hx⟩:=bX a bh;have ay:=bJ (f:=aU) hx;have hh:=lJ b tb hb x;have cc:=HB (b:=b) hx;have bn:=KA (a.take i) b;have htl:(a.take i).length=i:=by rw[List.length_take];omega
   rw[htl] at bn;by_cases hm:x∈b
   ·rw[decide_eq_true hm] at hh;rw[if_pos hm,ad] at cc;rw[←cc];repeat' first|(with_reducible first|refine up hh ?_)|refine aw @ay ?_|fail
    refine .of (.less ?_ ba) ⟨(i+1,q,ex),rfl,rfl,by simp only;omega,by simp only;omega⟩;exact wW
   ·rw[decide_eq_false hm] at hh;rw[if_neg hm] at cc;obtain⟨L,hL⟩:∃L,i6 (a.take i) b=L:=⟨_,rfl⟩
    rw[hL] at cc bn ⊢;have fi:(L.map aU++ex).take L.length=L.map aU:=rW;have gv:(L.map aU++ex).drop (L.length+1)=ex.drop 1:=tQ;have tn:(L.map aU).length=L.length:=ac _;repeat' first|(with_reducible first|refine up hh ?_)|(refine wM ?_;(first|(have _:=ao)|(have _:=ak;intro ao)|(intro ak));intros)|(refine wY ?_ ?_<;>intro h)|refine jf @ay @fi @gv @tn ?_|fail
    ·have hex:ex=[]:=am (by first|omega|(simp at *;omega));subst hex;refine .of (.less ?_ (σ1:=a5.set ao (.row 3 1 (L.map aU++[]++[aU x]))) (St.aB bt sS)) ⟨(i+1,ao,[]),rfl,by simp[cc],by simp only;omega,by simp only;omega⟩;simp(maxSteps:=4000000) (disch:=first|decide|assumption|omega|(simp only[wL];omega)) only[go_sem,simprocAttr,bE,aX,cc];all_goals first|rfl|(simp;done)
    ·refine .of (.less ?_ (σ1:=a5.set ao (.row 3 1 (L.map aU++[aU x]++ex.drop 1))) (St.aB bt sS)) ⟨(i+1,ao,ex.drop 1),rfl,by simp[cc],by simp only;omega,by simp only;omega⟩;simp(maxSteps:=4000000) (disch:=first|decide|assumption|omega|(simp only[wL];omega)) only[go_sem,simprocAttr,bE,aX,cc];all_goals first|rfl|(simp;done)
  ·have:i=a.length:=oM;subst this;rw[aa];repeat' first|refine ed ?_|fail
   exact dT cj ax
def BD(l:List GR)(tt:Bool)(hl:l.length≤1000000)(hm:∀g,g∈l→g.mem.length≤1000000)(cm:jF (-1) l=true)(id:Int):aA Tryz.prog 91 [.aj 2 (l.map GR.c) tt,.int .i64 id] a5 (fun r _=>r=.int .u32 (jx l id:Int)):=by
 refine bb (mB 28 [.tmp 4] Tryz.func91 ?_);repeat' first|refine aw @Tryz.f91.eq_1 ?_|fail
 refine aG (α:=Nat) (fun i=>⟨28,[(6,.int .i64 (i:Int)),(5,.int .u32 (jx (l.take i) id:Int)),(0,.aj 2 (l.map GR.c) tt),(1,.int .i64 id)],[]⟩) (fun _=>a5) (fun i=>i≤l.length) (fun i=>l.length-i) (.of (.less ?_ ba) ⟨0,rfl,rfl,a2 _⟩) ?_
 ·simp(maxSteps:=4000000) (disch:=first|decide|assumption|omega|(simp only[wL];omega)) only[go_sem,simprocAttr,bE,aX];all_goals first|rfl|(simp[jx,aX];done)
 ·rintro i hi;by_cases bh:i<l.length
  ·obtain⟨g,hg⟩:=bX l bh;have ay:=bJ (f:=GR.c) hg;have cc:=AW hg id;obtain⟨h1,h2,h3,h4⟩:=JZ cm hg id;have hh:=lJ g.mem false (hm g (dJ hg)) id;obtain⟨k,hk⟩:∃k:Nat,g.no=k:=⟨g.no.toNat,oM⟩
   rw[hk] at h1 h2 h3;rw[Int.toNat_natCast] at h1;have hw:=Ly (jx (l.take i) id) k oM h1;unfold se at cc;rw[hk,Int.toNat_natCast] at cc;by_cases mn:id∈g.mem
   ·rw[if_pos mn] at cc;rw[decide_eq_true mn] at hh;repeat' first|(with_reducible first|refine up hh ?_|refine up hw ?_)|refine bu @ay @hk ?_|fail
    refine .of (.less ?_ ba) ⟨i+1,rfl,rfl,oM,oM⟩;rw[cc];exact wW
   ·rw[if_neg mn] at cc;rw[decide_eq_false mn] at hh;repeat' first|(with_reducible first|refine up hh ?_|refine up hw ?_)|refine bu @ay @hk ?_|fail
    refine .of (.less ?_ ba) ⟨i+1,rfl,rfl,oM,oM⟩;rw[cc];exact wW
  ·have:i=l.length:=oM;subst this;rw[aa];repeat' first|refine ed ?_|fail
   all_goals exact lE
def aR.Uo{n:Nat}{l l1:List (Nat×MV)}{d:List (FuncId×List MV)}{τ:St}{q:Nat}{o:aY}(hq:τ q=none)(h:∀p,p∈l1→View (a5.set q o) (cV l p.1) p.2):aR ⟨n,l,d⟩ (τ.set q o) ⟨n,l1,d⟩ τ :=
 aR.freeze (a5.set q o) (St.aB bt cj) (gQ hq) (fun k o' hk=>(cn (fun e=>by subst e;rw[hq] at hk;cases hk)).trans rfl) h
def zT{gr:List GR}(hg:jF (-1) gr=true){fl:List ND}(hp:bR fl=0){c:CA}(hc:iY c=true)(id:Int)(hid:c.id=id)(tt:Bool):aA Tryz.prog 90 [.aj 5 (fl.map aN) tt,.agg c.c,.int .u32 (jx gr id:Int)] a5 (fun r _=>r=.bool (fJ gr fl c)):=by obtain⟨h1,h2,h3⟩:=Au hp;have ue:=Mr hg id;have:=oB (qK c) ⟨c.f.h,AB hc,c.fp.toNat_lt⟩ (jx gr id) oM (rX fl) h1 (by rw[h2];omega) tt;rw[h2] at this;unfold fJ;rw[hid];exact this
def Lu(cs:List CA)(hl:cs.length≤1000000)(tt:Bool)(id:Int):aA Tryz.prog 238 [.aj 27 (cs.map CA.c) tt,.int .i64 id] a5 (fun r _=>r=.ar [.agg ((cs.find? fun c=>decide (c.id=id)).getD ig).c,.bool (cs.find? fun c=>decide (c.id=id)).isSome]):=by
 refine bb (mB 25 [.cell 4 126,.tmp 5] Tryz.func238 ?_);repeat' first|(refine wM ?_;(first|(have _:=ah)|(intro ah));intros)|refine aw @Tryz.f238.eq_1 ?_|fail
 refine aG (α:=Nat) (fun i=>⟨25,[(6,.int .i64 (i:Int)),(5,.bool false),(4,.ptr ah 0 0),(0,.aj 27 (cs.map CA.c) tt),(1,.int .i64 id)],[]⟩) (fun _=>a5.set ah (.row 126 27 [ig.c])) (fun i=>i≤cs.length∧∀c,c∈cs.take i→c.id≠id) (fun i=>cs.length-i) (.of (.less ?_ ba) ⟨0,rfl,rfl,a2 _,ax⟩) ?_
 ·exact wW
 ·rintro i ⟨hi,hq⟩;by_cases bh:i<cs.length
  ·obtain⟨y,hy⟩:=bX cs bh;have ay:=bJ (f:=CA.c) hy;by_cases he:y.id=id
   ·rw[NL hq hy he];subst he;simp only[a4,a3];repeat' first|refine bu @ai @ay ?_|fail
    all_goals first|exact⟨_,ba,rfl⟩|exact⟨_,ba⟩|(exfalso;omega)|skip
   ·repeat' first|refine bu @ai @ay ?_|fail
    all_goals try(exfalso;omega)
    all_goals
     refine .of (.less ?_ ba) ⟨i+1,rfl,rfl,⟨oM,fun c h'=>?_⟩,oM⟩
     ·exact wW
     ·rw[aW hy,List.mem_append,ap] at h';rcases h' with h'|rfl
      ·exact hq c h'
      ·exact he
  ·have:i=cs.length:=oM;subst this;rw[aa] at hq;have hn:cs.find? (fun c=>decide (c.id=id))=none:=List.find?_eq_none.2 fun x hx=>by simpa using hq x hx
   rw[hn];repeat' first|refine aw @ai ?_|fail
   all_goals first|exact⟨_,ba,rfl⟩|exact⟨_,ba⟩|(exfalso;omega)|skip
def BG(c:CA)(m:UInt32):aA Tryz.prog 92 [.agg c.c,.int .u32 (m.toNat:Int)] a5 (fun r _=>r=.agg (fV c m).c):=by
 refine bb (mB 32 [.cell 4 126] Tryz.func92 ?_);have bn:=uI m;obtain⟨ml,ZG⟩:∃b,bit m.toNat 8=b:=⟨_,rfl⟩
 rw[ZG] at bn;have oh:(fV c m).c=.int .i64 c.id::.int .i64 c.c9::.int .u32 (((if ml=true then c.fp else 0:UInt32).toNat:Nat):Int)::fc (lV c.f m.toNat 8):=by rw[←ZG];rfl
 rw[oh];clear ZG oh;obtain⟨lb,qw⟩:∃lb:UInt32,(if ml=true then c.fp else 0)=lb:=⟨_,rfl⟩
 rw[qw];have hb:∀i:Nat,i<8→aA Tryz.prog 178 [.int .u32 (m.toNat:Int),.int .i64 (i:Int)] a5 (fun r _=>r=.bool (bit m.toNat i)):=fun i h=>sN m i oM;cases ml;all_goals simp only[Bool.false_eq_true,if_false,if_true] at qw
 ·subst qw;repeat' first|(with_reducible first|refine up bn ?_)|(refine wM ?_;(first|(have _:=ao)|(have _:=ak;intro ao)|(have _:=ah;intro ak)|(intro ah));intros)|refine bu @Tryz.f92.eq_1 @ai ?_|fail
  refine aG (α:=Nat) (fun i=>⟨32,[(6,.int .i64 (i:Int)),(5,.ptr ao 0 0),(4,.ptr ak 0 0),(2,.ptr ah 0 0),(1,.int .u32 (m.toNat:Int))],[]⟩)
   (fun i=>((a5.set ah (.row 126 27 [c.c])).set ak (.row 126 27 [ig.c])).set ao (.row 126 27 [.int .i64 c.id::.int .i64 c.c9::.int .u32 ((0:UInt32).toNat:Int)::fc (lV c.f m.toNat i)])) (fun i=>i≤8) (fun i=>8-i) (.of (.less ?_ ba) ⟨0,rfl,rfl,a2 _⟩) ?_
  ·exact wW
  ·rintro i hi;by_cases h8:i<8
   ·have rq:=hb i h8;have da:lV c.f m.toNat (i+1)=if bit m.toNat i=true then(lV c.f m.toNat i).set i (c.f.get i) else lV c.f m.toNat i:=rfl;obtain⟨g,hg⟩:∃g,lV c.f m.toNat i=g:=⟨_,rfl⟩
    rw[hg] at da ⊢;cases hbb:bit m.toNat i<;>rw[hbb] at rq da
    ·rw[if_neg ax] at da;repeat' first|(with_reducible first|refine up rq ?_)|refine aw @ai ?_|fail
     all_goals try(exfalso;omega)
     all_goals
      refine .of (.less ?_ ba) ⟨i+1,rfl,by rw[da],oM,oM⟩;exact wW
    ·rw[if_pos rfl] at da;repeat' first|(with_reducible first|refine up rq ?_)|refine aw @ai ?_|fail
     all_goals try(exfalso;omega)
     all_goals
      refine .of (.less ?_ ba) ⟨i+1,rfl,by rw[da];first|rfl|skip,oM,oM⟩;exact wW
   ·have:i=8:=oM;subst this;repeat' first|refine aw @ai ?_|fail
    all_goals exact lE
 ·subst qw;repeat' first|(with_reducible first|refine up bn ?_)|(refine wM ?_;(first|(have _:=ao)|(have _:=ak;intro ao)|(have _:=ah;intro ak)|(intro ah));intros)|refine bu @Tryz.f92.eq_1 @ai ?_|fail
  refine aG (α:=Nat) (fun i=>⟨32,[(6,.int .i64 (i:Int)),(5,.ptr ao 0 0),(4,.ptr ak 0 0),(2,.ptr ah 0 0),(1,.int .u32 (m.toNat:Int))],[]⟩)
   (fun i=>((a5.set ah (.row 126 27 [c.c])).set ak (.row 126 27 [ig.c])).set ao (.row 126 27 [.int .i64 c.id::.int .i64 c.c9::.int .u32 (c.fp.toNat:Int)::fc (lV c.f m.toNat i)])) (fun i=>i≤8) (fun i=>8-i) (.of (.less ?_ ba) ⟨0,rfl,rfl,a2 _⟩) ?_
  ·exact wW
  ·rintro i hi;by_cases h8:i<8
   ·have rq:=hb i h8;have da:lV c.f m.toNat (i+1)=if bit m.toNat i=true then(lV c.f m.toNat i).set i (c.f.get i) else lV c.f m.toNat i:=rfl;obtain⟨g,hg⟩:∃g,lV c.f m.toNat i=g:=⟨_,rfl⟩
    rw[hg] at da ⊢;cases hbb:bit m.toNat i<;>rw[hbb] at rq da
    ·rw[if_neg ax] at da;repeat' first|(with_reducible first|refine up rq ?_)|refine aw @ai ?_|fail
     all_goals try(exfalso;omega)
     all_goals
      refine .of (.less ?_ ba) ⟨i+1,rfl,by rw[da],oM,oM⟩;exact wW
    ·rw[if_pos rfl] at da;repeat' first|(with_reducible first|refine up rq ?_)|refine aw @ai ?_|fail
     all_goals try(exfalso;omega)
     all_goals
      refine .of (.less ?_ ba) ⟨i+1,rfl,by rw[da];first|rfl|skip,oM,oM⟩;exact wW
   ·have:i=8:=oM;subst this;repeat' first|refine aw @ai ?_|fail
    all_goals exact lE
def zS(b:BK)(hb:BkR b)(h3:b.gr.length≤1000000)(h4:∀g,g∈b.gr→g.mem.length≤1000000)(fl:List ND)(hp:bR fl=0)(tt:Bool)(id:Int) :
  aA Tryz.prog 183 [.agg b.c,.aj 5 (fl.map aN) tt,.int .i64 id] a5 (fun r _=>r=.ar [.agg ((shown b fl id).getD ig).c,.bool (shown b fl id).isSome]):=by
 refine bb (mB 31 [.cell 6 126,.tmp 7] Tryz.func183 ?_);have hf:=Lu b.ae (by have:=hb.nc;omega) false id;have ho:=BD b.gr false h3 h4 hb.gok id;unfold shown;cases hfi:b.ae.find? (fun c=>decide (c.id=id)) with
 |none =>
  rw[hfi] at hf;simp only[Option.getD_none,Option.isSome_none] at hf ⊢;repeat' first|(with_reducible first|refine up hf ?_)|(refine wO ?_;intros)|refine bu @Tryz.f183.eq_1 @ai ?_|fail
  obtain⟨C,c1⟩:∃C:b9,∀ms,C 91 ms=some ⟨[],fun v=>v=.bool true,none⟩:=⟨oK 91 (.bool true),fun _=>dG⟩
  refine aJ mixed dK C ?_;repeat' first|refine aw @ai ?_|fail
  all_goals exact lE
 |some c =>
  rw[hfi] at hf;have hcm:=List.mem_of_find?_eq_some hfi;have hid:c.id=id:=by simpa using List.find?_some hfi
  have hm:=zT hb.gok hp (r7 hb hcm).1 id hid tt;simp only[a4,a3] at hf ⊢;obtain⟨C,c1,c2⟩:=yn 91 ⟨[],fun v=>v=.int .u32 (jx b.gr id:Int),none⟩ 90 ⟨[],fun v=>v=.bool (fJ b.gr fl c),none⟩;obtain⟨sb,ug⟩:∃x,fJ b.gr fl c=x:=⟨_,rfl⟩
  rw[ug] at hm c2 ⊢;obtain⟨gb,hgb⟩:∃x,jx b.gr id=x:=⟨_,rfl⟩
  rw[hgb] at hm ho c1;repeat' first|(with_reducible first|refine up hf ?_)|(refine wO ?_;intros)|refine bu @Tryz.f183.eq_1 @ai ?_|fail
  refine aJ mixed dK C ?_;cases sb;all_goals
   repeat' first|(with_reducible refine aF (c1 _) ho ?_)|(with_reducible refine aF (c2 _) hm ?_)|refine aw @ai ?_|fail
   all_goals exact lE
def PT(b:BK)(hb:BkR b)(h3:b.gr.length≤1000000)(h4:∀g,g∈b.gr→g.mem.length≤1000000)(fl:List ND)(hp:bR fl=0)(tt:Bool)(id:Int) :
  aA Tryz.prog 117 [.agg b.c,.aj 5 (fl.map aN) tt,.int .i64 id] a5 (fun r _=>r=.int .i64 (dE b fl id)):=by
 refine bb (mB 18 [.tmp 6] Tryz.func117 ?_);have hs:=zS b hb h3 h4 fl hp tt id;unfold dE;obtain⟨x,hx⟩:∃x,(shown b fl id).getD ig=x:=⟨_,rfl⟩
 obtain⟨y,hy⟩:∃x,(shown b fl id).isSome=x:=⟨_,rfl⟩
 rw[hx,hy] at hs;rw[hx];repeat' first|(with_reducible first|refine up hs ?_)|(refine wO ?_;intros)|refine bu @Tryz.f117.eq_1 @ai ?_|fail
 all_goals exact lE
def nQ{α:Type}{l:List α}{p:α→Bool}{i:Nat}{x:α}(h:l[i]?=some x):(l.take (i+1)).filter p=(l.take i).filter p++if p x=true then[x] else[]:=by rw[aW h,aI,List.filter_cons];split<;>simp
def IS(b:BK)(hb:BkR b)(h3:b.gr.length≤1000000)(h4:∀g,g∈b.gr→g.mem.length≤1000000)(fl:List ND)(hp:bR fl=0)(tt:Bool)(m:UInt32)(cur:Int) :
  aA Tryz.prog 23 [.agg b.c,.aj 5 (fl.map aN) tt,.int .u32 (m.toNat:Int),.int .i64 cur] a5 (fun r _=>r=.aj 27 ((bY b fl m cur).map CA.c) false):=by
 refine be (mB 46 [.tmp 8] Tryz.func23 ?_);unfold bY;rw[List.map_map];obtain⟨P,hP⟩:∃P:CA→Bool,(fun c:CA=>decide (c.id≤cur)&&fJ b.gr fl c)=P:=⟨_,rfl⟩
 have hPx:∀c:CA,P c=(decide (c.id≤cur)&&fJ b.gr fl c):=fun c=>by rw[←hP]
 rw[hP];clear hP;obtain⟨pj,xl⟩:∃f:CA→List MV,(CA.c ∘ fun c=>fV c m)=f:=⟨_,rfl⟩
 have hpx:∀c:CA,pj c=(fV c m).c:=fun c=>by rw[←xl];rfl
 rw[xl];clear xl;have jv:=hb.nc;repeat' first|(refine wM ?_;(first|(have _:=ak)|(have _:=ah;intro ak)|(intro ah));intros)|refine aw @Tryz.f23.eq_1 ?_|fail
 refine aG (α:=Nat×Nat×List (List MV)) (fun s=>⟨46,[(10,.int .i64 (s.1:Int)),(9,.vec 27 s.2.1 0 ((b.ae.take s.1).filter P).length),(4,.ptr ah 0 0),(1,.aj 5 (fl.map aN) tt),(2,.int .u32 (m.toNat:Int)),(3,.int .i64 cur)],[]⟩)
  (fun s=>(a5.set ah (.row 47 5 [b.c])).set s.2.1 (.row 126 27 (((b.ae.take s.1).filter P).map pj++s.2.2))) (fun s=>s.1≤b.ae.length∧s.2.1≠ah) (fun s=>b.ae.length-s.1) ?_ ?_
 ·refine .of (.less ?_ ba) ⟨(0,ak,[]),rfl,ax,a2 _,bc⟩;exact wW
 ·rintro⟨i,q,ex⟩ ⟨hi,hq⟩;simp only at hi hq ⊢;have hq':=Ne.symm hq;by_cases bh:i<b.ae.length
  ·obtain⟨x,hx⟩:=bX b.ae bh;have ay:=bJ (f:=CA.c) hx;have cc:=nQ (p:=P) hx;have hxx:=hPx x;have hxm:=dJ hx;have ho:=BD b.gr false h3 h4 hb.gok x.id;have hm:=zT hb.gok hp (r7 hb hxm).1 x.id rfl tt;have hpr:=BG x m;rw[←hpx] at hpr;obtain⟨sb,ug⟩:∃z,fJ b.gr fl x=z:=⟨_,rfl⟩
   obtain⟨gb,hgb⟩:∃z,jx b.gr x.id=z:=⟨_,rfl⟩
   rw[hgb] at hm ho;rw[ug] at hm hxx;have iw:((b.ae.take i).filter P).length≤i:=Nat.le_trans (an _ _) (by rw[List.length_take];omega);obtain⟨L,hL⟩:∃L,(b.ae.take i).filter P=L:=⟨_,rfl⟩
   rw[hL] at cc iw ⊢;obtain⟨y,hy⟩:∃y,pj x=y:=⟨_,rfl⟩
   have vp:y.length=27:=by rw[←hy,hpx];simp[CA.c,dD]
   have hyc:y.all MV.aP=true:=by rw[←hy,hpx];simp only[CA.c,List.all_cons,dV];rfl
   rw[hy] at hpr;obtain⟨C,c1,c2⟩:=yn 91 ⟨[],fun v=>v=.int .u32 (gb:Int),none⟩ 90 ⟨[],fun v=>v=.bool sb,none⟩;have fi:(L.map pj++ex).take L.length=L.map pj:=rW;have gv:(L.map pj++ex).drop (L.length+1)=ex.drop 1:=tQ;have tn:(L.map pj).length=L.length:=ac _;by_cases hc:x.id≤cur
   ·rw[decide_eq_true hc,Bool.true_and] at hxx;cases sb
    ·rw[hxx,if_neg ax,ad] at cc;repeat' first|(refine wM ?_;(first|(have _:=ao)|(intro ao));intros)|refine bu @ai @ay ?_|fail
     refine aJ mixed dK C ?_;repeat' first|(with_reducible refine aF (c1 _) ho ?_)|(with_reducible refine aF (c2 _) hm ?_)|refine aw @ai ?_|fail
     all_goals try(exfalso;omega)
     all_goals
      refine .of (.less ?_ (σ1:=(a5.set ah (.row 47 5 [b.c])).set q (.row 126 27 (L.map pj++ex))) (ni sS sS)) ⟨(i+1,q,ex),rfl,by simp only[cc],⟨by simp only;omega,hq⟩,by simp only;omega⟩;simp only[cc];exact wW
    ·rw[hxx,if_pos rfl] at cc;repeat' first|(refine wM ?_;(first|(have _:=ao)|(intro ao));intros)|refine bu @ai @ay ?_|fail
     refine aJ mixed dK C ?_;repeat' first|(with_reducible refine aF (c1 _) ho ?_)|(with_reducible refine aF (c2 _) hm ?_)|(with_reducible refine aC hpr ?_)|(refine wM ?_;(first|(have _:=bj)|(have _:=az;intro bj)|(intro az));intros)|(refine wY ?_ ?_<;>intro h)|refine wh @ai @ay @fi @gv @tn @vp @hyc ?_|fail
     ·have hex:ex=[]:=am oM;subst hex;refine .of (.less ?_ (σ1:=(a5.set ah (.row 47 5 [b.c])).set bj (.row 126 27 (L.map pj++[]++[y]))) (ni sS sS)) ⟨(i+1,bj,[]),rfl,by simp[cc,hy],⟨by simp only;omega,bc⟩,by simp only;omega⟩;simp only[cc];exact wW
     ·refine .of (.less ?_ (σ1:=(a5.set ah (.row 47 5 [b.c])).set bj (.row 126 27 (L.map pj++[y]++ex.drop 1))) (ni sS sS)) ⟨(i+1,bj,ex.drop 1),rfl,by simp[cc,hy],⟨by simp only;omega,bc⟩,by simp only;omega⟩;simp only[cc];exact wW
   ·rw[decide_eq_false hc,Bool.false_and] at hxx;rw[hxx,if_neg ax,ad] at cc;repeat' first|(refine wM ?_;(first|(have _:=ao)|(intro ao));intros)|refine bu @ai @ay ?_|fail
    refine aJ mixed dK C ?_;repeat' first|(with_reducible refine aF (c1 _) ho ?_)|(with_reducible refine aF (c2 _) hm ?_)|refine aw @ai ?_|fail
    all_goals try(exfalso;omega)
    all_goals
     refine .of (.less ?_ (σ1:=(a5.set ah (.row 47 5 [b.c])).set q (.row 126 27 (L.map pj++ex))) (ni sS sS)) ⟨(i+1,q,ex),rfl,by simp only[cc],⟨by simp only;omega,hq⟩,by simp only;omega⟩;simp only[cc];exact wW
  ·have:i=b.ae.length:=oM;subst this;rw[aa];repeat' first|refine ed ?_|fail
   exact dT cj ax
theorem kJ:∀(l:List TU) (x:TU) (id:Int),gH (l++[x]) id=if x.id=id then some x.new else gH l id
 |[],x,id=>by simp[gH]
 |t::l,x,id=>by
  rw[ab,gH,kJ l x id,gH];by_cases h:x.id=id
  ·rw[if_pos h,if_pos h]
  ·rw[if_neg h,if_neg h]
def Ju(a:Addr)(n:Int)(w:World)(hc:w.cell? a=some (.int .u32 n))(hs:a.spot=none):Calls Tryz.prog 202 #[.pointer (some a)] w fun e w'=>e=.returned (.bool (n != 0))∧w'=w:=by
 obtain⟨b,off,sub⟩:=a;simp only at hs;subst hs;have hl:=run_call_load (P:=Tryz.prog) Tryz.func247 (by kernel_rfl) (by kernel_rfl) (by kernel_rfl) .u32 (by kernel_rfl) hc
 go_enter Tryz.func202,Tryz.ntmps202
 go_wp2
 go_ret
 exact⟨rfl,rfl⟩
def xT(a:Addr)(x:Value)(u:FrameMode)(w:World)(hc:w.cell? a=some x)(hz:w.frozen? a=false)(hs:a.spot=none) :
  CallsD Tryz.prog 250 #[.pointer (some a),.bool true] u w fun e u' w'=>u'=u∧(e=.returned (.tuple #[])∧w'=w.drew.setCell a (.int .u32 1)):=by
 obtain⟨b,off,sub⟩:=a;simp only at hs;subst hs;have Zw:w.drew.cell? ⟨b,off,none⟩=some x:=by go_simp
 have hz':w.drew.frozen? ⟨b,off,none⟩=false:=by go_simp
 have dg:=run_call_store (P:=Tryz.prog) Tryz.func293 (by kernel_rfl) (by kernel_rfl) (by kernel_rfl) (by kernel_rfl) (k:=.u32) (y:=1) Zw hz'
 go_enter_d Tryz.func250,Tryz.ntmps250
 go_wp2
 go_region_calls
 all_goals (go_end0;exact⟨rfl,rfl⟩)
def qH{l o e:Nat}{t:TypeId}{x:List MV}{n:Int}(hx:x[o]?=some (.int .u32 n)):aA Tryz.prog 202 [.ptr l 0 o] (a5.set l (.row t e [x])) (fun v af=>v=.bool (n != 0)∧af=a5.set l (.row t e [x])):=by
 refine⟨⟨_,Tryz.func202,rfl,rfl⟩,fun Φ w vs hi hr=>?_⟩;obtain⟨p,R,v0,hp,hb,hc,hr0,hz,i1,s1⟩:=pG hi cj hx (m:=.int .u32 n) rfl (.int .u32 n);have e0:=hr0.aZ;subst e0;obtain⟨p',R',dw,mw,he⟩:=Ap hr;rw[hp] at dw;cases dw;rw[hb] at mw;cases mw;have hv:vs=#[.pointer (some ⟨R,p.bo+o,none⟩)]:=by
  have h1:=hr.1;apply a9
  ·simpa using h1
  ·intro i h3 h4;have:i=0:=by simp at h4;omega
   subst this;simpa[a6,a7 h3] using he
 subst hv;refine(Ju ⟨R,p.bo+o,none⟩ n w hc rfl).mono ?_;rintro e' w' ⟨rfl,rfl⟩;exact⟨_,_,_,Φ,rfl,.bool _,hi,.refl _ _ _,rfl,rfl⟩
def Ke{l o e:Nat}{t:TypeId}{x:List MV}(hx:x[o]?=some (.int .i32 0)):aA Tryz.prog 248 [.ptr l 0 o] (a5.set l (.row t e [x])) (fun v af=>v=.ar []∧af=a5.set l (.row t e [x.set o (.int .i32 1)])):=by
 refine⟨⟨_,Tryz.func248,rfl,rfl⟩,fun Φ w vs hi hr=>?_⟩;obtain⟨p,R,v0,hp,hb,hc,hr0,hz,i1,s1⟩:=pG hi cj hx (m:=.int .i32 1) rfl (.int .i32 1);have e0:=hr0.aZ;subst e0;obtain⟨p',R',dw,mw,he⟩:=Ap hr;rw[hp] at dw;cases dw;rw[hb] at mw;cases mw;have hv:vs=#[.pointer (some ⟨R,p.bo+o,none⟩)]:=by
  have h1:=hr.1;apply a9
  ·simpa using h1
  ·intro i h3 h4;have:i=0:=by simp at h4;omega
   subst this;simpa[a6,a7 h3] using he
 subst hv;refine(Go.MuLone.lock_free Sn ⟨R,p.bo+o,none⟩ w hc hz).mono ?_;rintro e' w' ⟨rfl,rfl⟩;refine⟨_,.ar [],_,Φ,rfl,.ar rfl ax,i1,s1,rfl,?_⟩;rw[set_set]
def Jj{σ:St}{K:St→Prop}{l o e:Nat}{t:TypeId}{x:List MV}(hs:σ l=some (.row t e [x]))(hx:x[o]?=some (.int .i32 1))(hk:R (K (σ.set l (.row t e [x.set o (.int .i32 0)])))):R (D8 Tryz.prog 249 [.ptr l 0 o] σ K):=by
 refine⟨_,Sn.f_unlock,rfl,rfl,fun Φ w vs hi hr=>?_⟩;obtain⟨p,R,v0,hp,hb,hc,hr0,hz,i1,s1⟩:=pG hi hs hx (m:=.int .i32 0) rfl (.int .i32 0);have e0:=hr0.aZ;subst e0;obtain⟨p',R',dw,mw,he⟩:=Ap hr;rw[hp] at dw;cases dw;rw[hb] at mw;cases mw;have hv:vs=#[.pointer (some ⟨R,p.bo+o,none⟩)]:=by
  have h1:=hr.1;apply a9
  ·simpa using h1
  ·intro i h3 h4;have:i=0:=by simp at h4;omega
   subst this;simpa[a6,a7 h3] using he
 subst hv;refine(Go.MuLone.unlock_deferred Sn ⟨R,p.bo+o,none⟩ .returning w hc hz).mono ?_;rintro e' u' w' ⟨rfl,rfl,rfl⟩;exact⟨rfl,_,_,Φ,rfl,i1,s1,hk⟩
def D9{σ:St}{K:St→Prop}{l o e:Nat}{t:TypeId}{x:List MV}{n:Int}(hs:σ l=some (.row t e [x]))(hx:x[o]?=some (.int .u32 n))(hk:R (K (σ.set l (.row t e [x.set o (.int .u32 1)])))):R (D8 Tryz.prog 250 [.ptr l 0 o,.bool true] σ K):=by
 refine⟨_,Tryz.func250,rfl,rfl,fun Φ w vs hi hr=>?_⟩;have hd:=hi.grow (w':=w.drew) rfl rfl rfl (lO (Nat.le_succ _)) (Nat.le_refl _) (fun _ _=>rfl);obtain⟨p,R,v0,hp,hb,hc,hr0,hz,i1,s1⟩:=pG hd.1 hs hx (m:=.int .u32 1) rfl (.int .u32 1);obtain⟨p',R',dw,mw,he⟩:=Ap hr;rw[hp] at dw;cases dw;rw[hb] at mw;cases mw;have he2:vs.getD 1 undef=.bool true:=by have:=hr.2 1 _ rfl;cases h:vs.getD 1 undef<;>rw[h] at this<;>cases this;rfl
 have hv:vs=#[.pointer (some ⟨R,p.bo+o,none⟩),.bool true]:=by
  have h1:=hr.1;apply a9
  ·simpa using h1
  ·intro i h3 h4
   match i,h3 with
   |0,h3=>simpa[a6,a7 h3] using he
   |1,h3=>simpa[a6,a7 h3] using he2
   |i+2,_=>simp at h4;omega
 subst hv;refine(xT ⟨R,p.bo+o,none⟩ v0 .returning w (by simpa using hc) (by simpa using hz) rfl).mono ?_;rintro e' u' w' ⟨rfl,rfl,rfl⟩;exact⟨rfl,_,_,Φ,rfl,i1,hd.2.trans s1,hk⟩
def TV(op:Int):FuncId:=if op=11 then 207 else 208
def Jy:T→FuncId
 |.leaf x=>Hf x.op
 |.one _ _=>206
 |.two x _ _=>TV x.op
def lY:T→MV
 |.leaf x=>Dr x
 |.one _ a=>.fn (.func 206) [] [.cg [lY a]]
 |.two x a b=>.fn (.func (TV x.op)) [] [.cg [lY a],.cg [lY b]]
def Jx:T→List MV
 |.leaf x=>Dq x
 |.one _ a=>[.cg [lY a]]
 |.two _ a b=>[.cg [lY a],.cg [lY b]]
theorem nM:∀t:T,lY t=.fn (.func (Jy t)) [] (Jx t)
 |.leaf _=>rfl
 |.one _ _=>rfl
 |.two _ _ _=>rfl
def Tu(x:ND)(c:CD)(g:Nat):(T.leaf x).kz (cW c g)=cW c g x:=by
 by_cases h1:x.op=1
 ·simp[T.kz,cW,h1]
 ·by_cases h2:x.op=2
  ·simp[T.kz,cW,h2]
  ·simp[T.kz,h1,h2]
theorem L2(c:CA)(hc:∀k,(c.f.get k).s.size≤1000000)(g:Nat)(hg:g<4294967296):∀t:T,Good t→aA Tryz.prog (Jy t) (.cg c.c::.int .u32 (g:Int)::Jx t) a5 (fun r _=>r=.bool (t.kz (cW (qK c) g)))
 |.leaf x,h=>by
  rw[Tu];exact XC c hc g hg x (h.2 x (by simp[T.fl]))
 |.one x a,h=>by
  have ih:=L2 c hc g hg a (AU.1 h).2.2;have ha:=nM a;have e:(T.one x a).kz (cW (qK c) g)=!a.kz (cW (qK c) g):=by simp[T.kz]
  rw[e];show aA Tryz.prog 206 [.cg c.c,.int .u32 (g:Int),.cg [lY a]] a5 _;rw[ha];refine(mB 11 [.tmp 5] Tryz.func206 ?_);generalize c.c=cells at ih ⊢;repeat' first|(with_reducible first|refine up ih ?_)|refine aw @Tryz.f206.eq_1 ?_|exact ev @Tryz.f206.eq_1|fail
 |.two x a b,h=>by
  obtain⟨q1,_,ga,gb⟩:=AV.1 h;have ia:=L2 c hc g hg a ga;have ib:=L2 c hc g hg b gb;have ha:=nM a;have hb:=nM b;have hs:(T.two x a b).kz (cW (qK c) g)=if x.op=11 then a.kz (cW (qK c) g)&&b.kz (cW (qK c) g) else a.kz (cW (qK c) g) || b.kz (cW (qK c) g):=by by_cases e:x.op=11<;>simp[T.kz,e]
  rw[hs];show aA Tryz.prog (TV x.op) [.cg c.c,.int .u32 (g:Int),.cg [lY a],.cg [lY b]] a5 _;rw[ha,hb];unfold TV;generalize c.c=cells at ia ib ⊢;generalize a.kz (cW (qK c) g)=sa at ia ⊢;generalize b.kz (cW (qK c) g)=sb at ib ⊢;by_cases e:x.op=11
  ·rw[if_pos e,if_pos e];refine(mB 17 [.tmp 6] Tryz.func207 ?_);cases sa;all_goals
    repeat' first|(with_reducible first|refine up ia ?_|refine up ib ?_)|refine aw @Tryz.f207.eq_1 ?_|exact ev @Tryz.f207.eq_1|fail
    all_goals first|rfl|(cases sb<;>rfl)
  ·rw[if_neg e,if_neg e];refine(mB 17 [.tmp 6] Tryz.func208 ?_);cases sa;all_goals
    repeat' first|(with_reducible first|refine up ia ?_|refine up ib ?_)|refine aw @Tryz.f208.eq_1 ?_|fail
    all_goals first|rfl|(cases sb<;>rfl)
def rY{σ:St}{l:Nat}{t:TypeId}{m:MV}(h:σ l=some (.row t 1 [[m]])):View σ (.ptr l 0 0) (.cg [m]):=View.ptr (i:=0) (o:=0) h ax
theorem pE:∀T:T,Good T→∀(r:List ND) (t:Bool),(T.fl++r).length≤1000000→aA Tryz.prog 138 [.aj 5 ((T.fl++r).map aN) t] a5 (fun v _=>v=.ar [lY T,.aj 5 (r.map aN) false])
 |.leaf x,h,r,t,hl=>by
  refine be (mB 42 [.tmp 2,.tmp 3] Tryz.func138 ?_);have hp:=jA x.op;have h0:parts x.op=0:=h.1;rw[h0] at hp;have hlf:=N7 x;simp only[T.fl,ab,List.nil_append,List.map_cons,lY,al] at hl ⊢;generalize Dr x=lv at hlf ⊢;repeat' first|(with_reducible first|refine up hp ?_|refine up hlf ?_)|(refine wO ?_;intros)|refine aw @Tryz.f138.eq_1 ?_|fail
  exact .two (.same _) .loose
 |.one x a,h,r,t,hl=>by
  refine be (mB 42 [.tmp 2,.tmp 3] Tryz.func138 ?_);have h0:parts x.op=1:=h.1.1;have sj:=DO h0;have hp:aA Tryz.prog 204 [.int .i64 10] a5 (fun r _=>r=.int .i64 1):=jA 10;simp only[T.fl,ab,al] at hl;have ih:=pE a (AU.1 h).2.2 r t oM;have e:((T.one x a).fl++r).map aN=x.c::(a.fl++r).map aN:=rfl;rw[e];simp only[lY];rw[nM a] at ih ⊢;generalize Jy a=fa at ih ⊢;generalize Jx a=ca at ih ⊢;have hlen:((a.fl++r).map aN).length=(a.fl++r).length:=ac _;generalize (a.fl++r).map aN=l1 at ih hlen ⊢;repeat' first|(with_reducible first|refine up hp ?_|refine up ih ?_)|(refine wO ?_;intros)|refine bu @Tryz.f138.eq_1 @sj ?_|fail
  exact .two (.fn rfl (yZ (rY (t:=190) sS))) (.same _)
 |.two x a b,h,r,t,hl=>by
  refine be (mB 42 [.tmp 2,.tmp 3] Tryz.func138 ?_);obtain⟨q1,_,ga,gb⟩:=AV.1 h;have hp11:aA Tryz.prog 204 [.int .i64 11] a5 (fun r _=>r=.int .i64 2):=jA 11;have hp12:aA Tryz.prog 204 [.int .i64 12] a5 (fun r _=>r=.int .i64 2):=jA 12;simp only[T.fl,ab,al,List.append_assoc] at hl;have ia:=pE a ga (b.fl++r) t oM;have ib:=pE b gb r false (by simp only[au] at hl ⊢;omega);have e:((T.two x a b).fl++r).map aN=x.c::(a.fl++(b.fl++r)).map aN:=by simp[T.fl]
  rw[e];simp only[lY];rw[nM a] at ia ⊢;rw[nM b] at ib ⊢;generalize Jy a=fa at ia ⊢;generalize Jx a=ca at ia ⊢;generalize Jy b=fb at ib ⊢;generalize Jx b=cb at ib ⊢;have hlen:((a.fl++(b.fl++r)).map aN).length=(a.fl++(b.fl++r)).length:=ac _;generalize (a.fl++(b.fl++r)).map aN=l1 at ia hlen ⊢;generalize (b.fl++r).map aN=l2 at ia ib ⊢;unfold TV;rcases DP q1 with h1|h1<;>rw[h1]
  ·rw[if_pos rfl];repeat' first|(with_reducible first|refine up hp11 ?_|refine up ia ?_|refine up ib ?_)|(refine wO ?_;intros)|refine bu @Tryz.f138.eq_1 @h1 ?_|fail
   exact .two (.fn rfl (sT (rY (t:=190) sS) (rY (t:=190) sS))) (.same _)
  ·rw[if_neg br];repeat' first|(with_reducible first|refine up hp12 ?_|refine up ia ?_|refine up ib ?_)|(refine wO ?_;intros)|refine bu @Tryz.f138.eq_1 @h1 ?_|fail
   exact .two (.fn rfl (sT (rY (t:=190) sS) (rY (t:=190) sS))) (.same _)
def eK{P:Program}{g:FuncId}{ms:List MV}{σ σ1:St}{r:MV}{k:MV→St→Prop}(h:aA P g ms σ fun v τ=>v=r∧τ=σ1)(hk:R (cD r σ1 k)):R (dR P g ms σ k) :=
 h.mono fun v τ q=>by obtain⟨rfl,rfl⟩:=q;exact hk
abbrev flO(L:MV)(d s:Int)(a:MV):aY:=.row 192 5 [[L,.int .u32 d,.int .i32 s,.int .u32 0,a]]
abbrev flS(p f:Nat)(L:MV)(d s:Int)(a:MV):St:=(a5.set p (.row 79 1 [[.ptr f 0 0]])).set f (flO L d s a)
def Hk{T:T}(hT:Good T)(hl:T.fl.length≤1000000){p f:Nat}(hpf:p≠f)(t:Bool):aA Tryz.prog 137 [.ptr p 0 0] (flS p f (.aj 5 (T.fl.map aN) t) 0 1 .cw) (fun v af=>v=.ar []∧af=flS p f (.aj 5 (T.fl.map aN) t) 0 1 (lY T)):=by
 refine(mB 12 [] Tryz.func137 ?_);have hb:=pE T hT [] t (by simpa using hl);rw[ad,List.map_nil] at hb;have hfp:=Ne.symm hpf;rw[nM] at hb ⊢;generalize Jy T=fa at hb ⊢;generalize Jx T=ca at hb ⊢;obtain⟨C,c1⟩:=kw1 138 ⟨[],fun v=>v=.ar [.fn (.func fa) [] ca,.aj 5 [] false],none⟩;repeat' first|((with_reducible refine aJ mixed ?chk C ?_);(case chk=>decide +kernel))|(with_reducible refine aF (c1 _) hb ?_)|refine aw @Tryz.f137.eq_1 ?_|exact ev @Tryz.f137.eq_1|fail
 all_goals first|exact⟨rfl,rfl⟩|rfl|skip
def Cv{T:T}(hT:Good T)(hl:T.fl.length≤1000000){p f:Nat}(hpf:p≠f)(t:Bool):aA Tryz.prog 203 [.ptr f 0 1,.fn (.func 137) [] [.ptr p 0 0]] (flS p f (.aj 5 (T.fl.map aN) t) 0 0 .cw) (fun v af=>v=.ar []∧af=flS p f (.aj 5 (T.fl.map aN) t) 1 0 (lY T)):=by
 refine(mB 21 [] Tryz.func203 ?_);have hm:=Hk hT hl hpf t;have hfp:=Ne.symm hpf;have h0:=Ke (l:=f) (o:=2) (e:=5) (t:=192) (x:=[.aj 5 (T.fl.map aN) t,.int .u32 0,.int .i32 0,.int .u32 0,.cw]) rfl;have h1:=qH (l:=f) (o:=1) (e:=5) (t:=192) (x:=[.aj 5 (T.fl.map aN) t,.int .u32 0,.int .i32 1,.int .u32 0,.cw]) (n:=0) rfl;repeat' first|(refine cB cj h0 ?_)|(refine cB (by simp[St.set]) h1 ?_)|(refine eK hm ?_)|(refine D9 cj rfl ?_)|(refine Jj cj rfl ?_)|refine aw @Tryz.f203.eq_1 ?_|exact ev @Tryz.f203.eq_1|fail
 all_goals skip
def H3{T:T}(hT:Good T)(hl:T.fl.length≤1000000){p f:Nat}(hpf:p≠f)(t:Bool):aA Tryz.prog 136 [.ptr f 0 1,.fn (.func 137) [] [.ptr p 0 0]] (flS p f (.aj 5 (T.fl.map aN) t) 0 0 .cw) (fun v af=>v=.ar []∧af=flS p f (.aj 5 (T.fl.map aN) t) 1 0 (lY T)):=by
 refine(mB 12 [] Tryz.func136 ?_);have hm:=Cv hT hl hpf t;have h1:=qH (l:=f) (o:=1) (e:=5) (t:=192) (x:=[.aj 5 (T.fl.map aN) t,.int .u32 0,.int .i32 0,.int .u32 0,.cw]) (n:=0) rfl;repeat' first|(refine cB cj h1 ?_)|(refine eK hm ?_)|refine aw @Tryz.f136.eq_1 ?_|exact ev @Tryz.f136.eq_1|fail
 all_goals first|done|exact⟨rfl,rfl⟩
def E4{L a:MV}{p f:Nat}(hpf:p≠f):aA Tryz.prog 136 [.ptr f 0 1,.fn (.func 137) [] [.ptr p 0 0]] (flS p f L 1 0 a) (fun v af=>v=.ar []∧af=flS p f L 1 0 a):=by
 refine(mB 12 [] Tryz.func136 ?_);have h1:=qH (l:=f) (o:=1) (e:=5) (t:=192) (x:=[L,.int .u32 1,.int .i32 0,.int .u32 0,a]) (n:=1) rfl;repeat' first|(refine cB cj h1 ?_)|refine aw @Tryz.f136.eq_1 ?_|exact ev @Tryz.f136.eq_1|fail
 all_goals first|done|exact⟨rfl,rfl⟩
def Xg{P:Program}{g:FuncId}{ms:List MV}{σ:St}{p f:Nat}{op of of':aY}{r:MV}{k:MV→St→Prop}(hpf:p≠f)(hp:σ p=some op)(hf:σ f=some of)
 (h:aA P g ms ((a5.set p op).set f of) fun v af=>v=r∧af=(a5.set p op).set f of')(hk:R (cD r (σ.set f of') k)):R (dR P g ms σ k) :=
 bU h (ni hp hf) fun v af q _=>by
  obtain⟨rfl,rfl⟩:=q;have e:((a5.set p op).set f of').over (σ.minus ((a5.set p op).set f of))=σ.set f of':=by
   funext j;by_cases h1:j=f
   ·subst h1;simp[St.over,St.set]
   ·by_cases h2:j=p
    ·subst h2;simp[St.over,St.set,h1,hp]
    ·simp[St.over,St.set,St.minus,h1,h2,a5]
  rw[e];exact hk
def LQ{σ:St}{a a':MV}{l:List MV}(h:View σ a a'):∀(i:Nat) (m m':MV),(a::l)[i]?=some m→(a'::l)[i]?=some m'→View σ m m':=fun i m m' h1 h2=>by
 match i with
 |0=>simp at h1 h2;subst h1 h2;exact h
 |i+1=>simp at h1 h2;rw[h1] at h2;cases h2;exact .same _
def Eu{T:T}(hT:Good T)(hl:T.fl.length≤1000000)(c:CA)(hc:∀k,(c.f.get k).s.size≤1000000)(g:Nat)(hg:g<4294967296)(f:Nat)(t d:Bool) :
  aA Tryz.prog 66 [.ptr f 0 0,.agg c.c,.int .u32 (g:Int)] (a5.set f (flO (.aj 5 (T.fl.map aN) t) (if d=true then 1 else 0) 0 (if d=true then lY T else .cw))) (fun v af=>v=.bool (T.kz (cW (qK c) g))∧af=a5.set f (flO (.aj 5 (T.fl.map aN) t) 1 0 (lY T))):=by
 refine aA.less (Q':=fun v af=>v=.bool (T.kz (cW (qK c) g))∧(a5.set f (flO (.aj 5 (T.fl.map aN) t) 1 0 (lY T))).le af) (mB 20 [.tmp 6] Tryz.func66 ?_) fun v af h=>⟨_,h.2,h.1,rfl⟩
 have uu:∀{p},p≠f→aA Tryz.prog 136 [.ptr f 0 1,.fn (.func 137) [] [.ptr p 0 0]] (flS p f (.aj 5 (T.fl.map aN) t) (if d=true then 1 else 0) 0 (if d=true then lY T else .cw)) (fun v af=>v=.ar []∧af=flS p f (.aj 5 (T.fl.map aN) t) 1 0 (lY T)):=fun {p} hp=>by
  cases d
  ·exact H3 hT hl hp t
  ·exact E4 hp
 have ha:=L2 c hc g hg T hT;rw[nM] at uu ⊢;generalize Jy T=fa at ha uu ⊢;generalize Jx T=ca at ha uu ⊢;generalize T.kz (cW (qK c) g)=out at ha ⊢;have hlen:c.c.length=27:=by simp[CA.c,dD]
 have dc:c.c.all MV.aP=true:=by simp only[CA.c,List.all_cons,dV];rfl
 generalize c.c=cells at ha hlen dc ⊢;obtain⟨dn,wv⟩:∃x:Int,(if d=true then 1 else 0)=x:=⟨_,rfl⟩
 obtain⟨av,hav⟩:∃x:MV,(if d=true then MV.fn (.func fa) [] ca else .cw)=x:=⟨_,rfl⟩
 rw[wv,hav] at uu ⊢;repeat' first|(refine Xg bc sS sS (uu bc) ?_)|(refine B3 (.cg cells::.int .u32 (g:Int)::ca) ha (by constructor) rfl (LQ (View.ptr (i:=0) (o:=0) cj ax)) ?_)|(refine wO ?_;intros)|refine fx @Tryz.f66.eq_1 @hlen @dc ?_|fail
 all_goals exact St.aB bt sS
