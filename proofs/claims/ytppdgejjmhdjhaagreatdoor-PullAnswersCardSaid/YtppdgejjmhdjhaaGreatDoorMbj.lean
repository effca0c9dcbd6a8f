/- Parts of the proof; conditions: as its theorems name them. -/
import Derived.Test.YtppdgejjmhdjhaaGreatDoorMbi
set_option linter.all false
set_option maxHeartbeats 8000000
set_option maxRecDepth 100000
namespace Go.Proofs.YtppdgejjmhdjhaaGreatDoor
open BK renaming c->aa
open IT renaming k->ab
open List renaming map_cons->ac,map_nil->ad,length_map->ag,not_mem_nil->am,length_append->an,mem_cons->ap,take_length->au,length_take->av,eq_nil_of_length_eq_zero->aI,headD_cons->aN,map_append->a0,length_nil->a6,length_singleton->a7,mem_singleton->a9
open Nat renaming zero_le->be
open Ne renaming symm->bf
open Option renaming isSome_some->bg,isSome_none->bi,getD_some->bp,getD_none->bs,map_some->bv
open St renaming none->bx,set->bz,aB->b0,del->b5
open aA renaming less->b6
def SG{n:Nat}{x:List MV}(h:CT Tryz.prog (n+6) 24 x):∃l:List ED,x=[.aj 29 (l.map ED.c) false]:=by obtain⟨xs,hm,_,hx⟩:=Gz (by rw[Xa]) h;obtain⟨l,rfl⟩:=Hi fun x vm=>XX (hx x vm);rw[Vx] at hm;exact⟨l,hm⟩
def YN{n:Nat}{x:List MV}(h:CT Tryz.prog (n+7) 26 x):∃s:RU,x=s.c:=by obtain⟨hl,hf⟩:=mH (congrArg TD.k Vw) h;rw[Vw] at hl;obtain⟨l,hh⟩:=WT (hf (0,22) ax);obtain⟨u,hu⟩:=WV (hf (1,23) ax);obtain⟨a,ha⟩:=SG (hf (2,24) ax);obtain⟨b,hb⟩:=SG (hf (3,24) ax);simp only[W9,LK,Xa] at hh hu ha hb;refine⟨⟨l,u,a,b⟩,?_⟩;rw[oD hl [(0,1),(1,1),(2,1),(3,1)] rfl];simp only[yP,hh,hu,ha,hb];rfl
def YD{m:MV}(h:AT Tryz.prog 10 26 m):∃s:RU,m=.agg s.c:=by obtain⟨cs,rfl,h1⟩:=Jz (by rw[Vw];rfl) h;obtain⟨x,rfl⟩:=YN (n:=3) h1;exact⟨x,rfl⟩
abbrev beC(p q:MV)(B:BK)(fl:List ND)(tf:Bool)(mk:UInt32)(w:VS)(al:MV):List MV:=[p,q,.int .i64 B.sq,.int .i64 B.nx,.aj 27 (B.ae.map CA.c) false,.aj 3 (B.dead.map DE.c) false,.aj 2 (B.gr.map GR.c) false,.aj 5 (fl.map ND.c) tf,.int .u32 (mk.toNat:Int),.int .i64 w.floor,.int .i64 w.now,.aj 31 (w.log.map TU.c) false,al]
structure BeI (x:RU) (J:BK→VS→List BK→Prop) (W:BK) (z w:VS) (all:List BK):Prop where
 hW:dx W
 hV:Qo W x.fl z
 h3:y8 z w
 hJ:J W z all
def BeQ(x:RU)(J:BK→VS→List BK→Prop)(r:MV)(af:St):Prop:=∃m l q b f d sm g v z w all ex,mM m l q b f sm g v∧BeI x J (kM (kM wk x.pre) x.post) z w all∧all.length≤200000∧r=.agg (beC (.ptr b 0 0) (.ptr v 0 0) (kM (kM wk x.pre) x.post) x.fl false x.mask w (.aj 5 (all.map aa) false))∧af=fy m l q b (kM (kM wk x.pre) x.post) f x.fl d sm g v x.mask z ex
abbrev gU(b:Nat):GU:=⟨.ptr b 0 0,.ej,.aK,.int .u32 0,.int .i64 0,.int .i64 0,.aK,.aK⟩
def Ec(x:RU)(J:BK→VS→List BK→Prop)(hJ0:∀z,z.log=[]→z.floor=(kM wk x.pre).sq→z.now=(kM wk x.pre).sq→J (kM wk x.pre) z [kM wk x.pre])
 (hJ1:∀W z al e,dx W→Qo W x.fl z→J W z al→J (fw W e) (gD (fw W e) x.fl x.mask z (dF W.sq (mb W e))) (al++dL W e))(iz:bR x.fl=0)(hmk:x.mask.toNat≤511)(mo:x.pre.length≤120)(hpost:x.post.length≤120):aA Tryz.prog 49 [.agg x.c] bx (BeQ x J):=by
 refine aA.gh (mB 103 [.cell 2 106] Tryz.func49 ?_);have gi:aA Tryz.prog 60 [] bx _:=y9;have wv:=NC;have bn:(x.pre.map ED.c).length=x.pre.length:=ag _;have Z8:(x.post.map ED.c).length=x.post.length:=ag _;repeat' first|(refine aC wv ?_)|((refine Na gi ?_;intro m l q b hm hl hq hb D;simp only[aM] at hm hl hq hb;obtain⟨m1,m2,-⟩:=hm;obtain⟨l1,l2,-⟩:=hl;obtain⟨q1,q2,-⟩:=hq;obtain⟨b1,b2,-⟩:=hb;have m1':=bf m1;have l1':=bf l1;have q1':=bf q1;have b1':=bf b1;have m2':=bf m2;have l2':=bf l2;have q2':=bf q2;have b2':=bf b2;have D':=D;obtain⟨d1,d2,d3,d4,d5,d6⟩:=D;have e1:=bf d1;have e2:=bf d2;have e3:=bf d3;have e4:=bf d4;have e5:=bf d5;have e6:=bf d6))|(refine wM ?_;(first|(have _:=bj)|(have _:=az;intro bj)|(have _:=ao;intro az)|(have _:=ak;intro ao)|(have _:=ah;intro ak)|(intro ah));intros)|refine wV ?_|(refine wY ?_ ?_<;>intro h)|refine jf @Tryz.f49.eq_1 @ai @ac.{0,0} @ad.{0,0} ?_|exact ZY @Tryz.f49.eq_1 @ai @ac.{0,0} @ad.{0,0}|fail
 have n21:ak≠ah:=bc;have n31:ao≠ah:=bc;have n32:ao≠ak:=bc;have n12:=bf n21;have n13:=bf n31;have n23:=bf n32;have m3:m≠ao:=bc;have l3:l≠ao:=bc;have q3:q≠ao:=bc;have b3:b≠ao:=bc;have m3':=bf m3;have l3':=bf l3;have q3':=bf q3;have b3':=bf b3;obtain⟨X,hX⟩:∃X:aY,.row 26 4 [x.c]=X:=⟨_,rfl⟩
 obtain⟨Y,hY⟩:∃Y:aY,.row 106 13 [[.ej,.ej,.int .i64 0,.int .i64 0,.aK,.aK,.aK,.aK,.int .u32 0,.int .i64 0,.int .i64 0,.aK,.aK]]=Y:=⟨_,rfl⟩
 rw[hX,hY];refine aG (α:=Nat×Nat) (fun s=>⟨103,[(4,.int .i64 (s.1:Int)),(3,.ptr ao 0 0),(2,.ptr ak 0 0),(1,.ptr ah 0 0)],[]⟩)
  (fun s=>(((dh m l s.2 b (kM wk (x.pre.take s.1)) []).set ah X).set ak Y).set ao (gO (gU b) (kM wk (x.pre.take s.1)))) (fun s=>s.1≤x.pre.length∧eB m l s.2 b∧∀j,j=ah∨j=ak∨j=ao→dh m l s.2 b (kM wk (x.pre.take s.1)) [] j=none) (fun s=>x.pre.length-s.1) ?_ ?_
 ·refine .of (.less ?_ (σ1:=(((dh m l q b wk []).set ah X).set ak Y).set ao (gO (gU b) wk)) ?_) ⟨(0,q),rfl,rfl,be _,D',?_⟩
  ·exact wW
  ·simp only[dh,iu,List.append_nil];exact b0 (b0 (b0 (b0 (b0 (ni sS sS) sS) sS) sS) sS) cj
  ·rintro j (rfl|rfl|rfl)
   ·exact gE m2' l2' q2' b2'
   ·exact gE m1' l1' q1' b1'
   ·exact gE m3' l3' q3' b3'
 ·rintro⟨i,q0⟩ ⟨hi,D0,lx⟩;simp only at hi D0 lx ⊢;have o1:=lx ah (.inl rfl);have o2:=lx ak (.inr (.inl rfl));have o3:=lx ao (.inr (.inr rfl));clear lx;have hW:=YR YF (x.pre.take i);by_cases bh:i<x.pre.length
  ·obtain⟨e,he⟩:=bX x.pre bh;have ay:=bJ (f:=ED.c) he;have cc:=DX wk (x.pre.take i) e;rw[←aW he] at cc;obtain⟨W,hWe⟩:∃W,kM wk (x.pre.take i)=W:=⟨_,rfl⟩
   rw[hWe] at hW cc o1 o2 o3 ⊢;have hpd:=DS hW D0 [] e;have hrd:=DU (gU b) ao hW e;unfold yr at hrd;have qe:(dh m l q0 b W []).le ((((dh m l q0 b W []).set ah X).set ak Y).set ao (gO (gU b) W)):=cO (cO (cO ba o1) o2) o3;have c1:((((dh m l q0 b W []).set ah X).set ak Y).set ao (gO (gU b) W)) ah=some (.row 26 4 [x.c]):=by simp[bz, *]
   have c2:((((dh m l q0 b W []).set ah X).set ak Y).set ao (gO (gU b) W)) ak=some Y:=by simp[bz, *]
   have c3:((((dh m l q0 b W []).set ah X).set ak Y).set ao (gO (gU b) W)) ao=some (gO (gU b) W):=cj;obtain⟨Z0,qz⟩:∃Z0,(((dh m l q0 b W []).set ah X).set ak Y).set ao (gO (gU b) W)=Z0:=⟨_,rfl⟩
   rw[qz] at qe c1 c2 c3 ⊢;clear qz he;repeat' first|(refine wM ?_;(first|(have _:=bj)|(have _:=az;intro bj)|(have _:=ao;intro az)|(have _:=ak;intro ao)|(have _:=ah;intro ak)|(intro ah));intros)|refine wV ?_|(refine wY ?_ ?_<;>intro h)|refine vu @ai @ay @bn @c1 @c2 @c3 @ac.{0,0} @ad.{0,0} ?_|exact xu @ai @ay @bn @c1 @c2 @c3 @ac.{0,0} @ad.{0,0}|fail
   all_goals try(exfalso;omega)
   refine bZ mixed (fun _ _=>none) [_,_,_,_,_,_,_] [] rfl dK ?_;repeat' first|(refine wM ?_;(first|(have _:=bj)|(have _:=az;intro bj)|(have _:=ao;intro az)|(have _:=ak;intro ao)|(have _:=ah;intro ak)|(intro ah));intros)|refine wV ?_|(refine wY ?_ ?_<;>intro h)|refine vu @ai @ay @bn @c1 @c2 @c3 @ac.{0,0} @ad.{0,0} ?_|exact xu @ai @ay @bn @c1 @c2 @c3 @ac.{0,0} @ad.{0,0}|fail
   all_goals try(exfalso;omega)
   refine gJ qe hpd ?_;rintro _ za τa ⟨q2,D2,rfl,rfl⟩ hlea ux;obtain⟨a1,b1⟩:=ux ah _ c1 o1;obtain⟨a2,b2⟩:=ux ak _ c2 o2;obtain⟨a3,b3⟩:=ux ao _ c3 o3;clear ux qe c1 c2 c3 hpd;obtain⟨VV,hVV⟩:∃V,lp W e=V:=⟨_,rfl⟩
   obtain⟨EE,hEE⟩:∃E,iv W e=E:=⟨_,rfl⟩
   obtain⟨W2,hW2e⟩:∃W2,fw W e=W2:=⟨_,rfl⟩
   rw[hVV,hEE,hW2e] at hrd;rw[hVV,hEE];rw[hW2e] at hlea b1 b2 b3 cc;repeat' first|(refine cB (o:=gO (gU b) W) (by simp[bz, *];done) hrd ?_)|(refine wM ?_;(first|(have _:=bj)|(have _:=az;intro bj)|(have _:=ao;intro az)|(have _:=ak;intro ao)|(have _:=ah;intro ak)|(intro ah));intros)|refine wV ?_|(refine wY ?_ ?_<;>intro h)|refine vu @ai @ay @bn @a1 @a2 @a3 @ac.{0,0} @ad.{0,0} ?_|exact xu @ai @ay @bn @a1 @a2 @a3 @ac.{0,0} @ad.{0,0}|fail
   all_goals try(exfalso;omega)
   all_goals
    refine .of (.less ?_ (σ1:=(((dh m l q2 b W2 []).set ah X).set ak Y).set ao (gO (gU b) W2)) ?_) ⟨(i+1,q2),rfl,by simp only[cc],⟨by simp only;omega,D2,?_⟩,by simp only;omega⟩
    ·exact wW
    ·refine b0 (b0 (b0 (cO hlea b3) ?_) ?_) cj
     ·rw[cn n13,←hX];exact a1
     ·rw[cn n23];exact a2
    ·simp only[cc];rintro j (rfl|rfl|rfl)
     ·exact b1
     ·exact b2
     ·exact b3
  ·obtain rfl:i=x.pre.length:=oM;rw[au] at hW o1 o2 o3 ⊢;obtain⟨B0,hB0e⟩:∃B0,kM wk x.pre=B0:=⟨_,rfl⟩
   rw[hB0e] at hW o1 o2 o3 ⊢;have hgl:B0.gr.length≤1000000:=by have:=hW.ng;omega
   have hgm:∀g,g∈B0.gr→g.mem.length≤1000000:=fun g hg=>by have:=hW.nm g hg;omega
   have hvn:=zL hW.toBkR hgl hgm D0 iz false hmk;have hd0:=mO B0;have qe:(dh m l q0 b B0 []).le ((((dh m l q0 b B0 []).set ah X).set ak Y).set ao (gO (gU b) B0)):=cO (cO (cO ba o1) o2) o3;have c1:((((dh m l q0 b B0 []).set ah X).set ak Y).set ao (gO (gU b) B0)) ah=some (.row 26 4 [x.c]):=by simp[bz, *]
   have c2:((((dh m l q0 b B0 []).set ah X).set ak Y).set ao (gO (gU b) B0)) ak=some Y:=by simp[bz, *]
   have c3:((((dh m l q0 b B0 []).set ah X).set ak Y).set ao (gO (gU b) B0)) ao=some (gO (gU b) B0):=cj;obtain⟨Z0,qz⟩:∃Z0,(((dh m l q0 b B0 []).set ah X).set ak Y).set ao (gO (gU b) B0)=Z0:=⟨_,rfl⟩
   rw[qz] at qe c1 c2 c3 ⊢;clear qz;repeat' first|(refine wM ?_;(first|(have _:=bj)|(have _:=az;intro bj)|(have _:=ao;intro az)|(have _:=ak;intro ao)|(have _:=ah;intro ak)|(intro ah));intros)|refine wV ?_|(refine wY ?_ ?_<;>intro h)|refine wh @ai @bn @c1 @c2 @c3 @ac.{0,0} @ad.{0,0} ?_|exact yz @ai @bn @c1 @c2 @c3 @ac.{0,0} @ad.{0,0}|fail
   all_goals try(exfalso;omega)
   refine gJ qe hvn ?_;rintro _ za xw ⟨f,sm,g,v,d,V,rfl,rfl⟩ ez uw;have v0:=Jp hW x.fl;obtain⟨z0,wc⟩:∃z0:VS,(⟨ZT (nk B0 x.fl),B0.sq,B0.sq,[]⟩:VS)=z0:=⟨_,rfl⟩
   have z0l:z0.log=[]∧z0.floor=B0.sq∧z0.now=B0.sq:=by rw[←wc];exact⟨rfl,rfl,rfl⟩
   rw[wc] at v0 ez uw;obtain⟨w1,u1⟩:=uw ah _ c1 o1;obtain⟨w2,u2⟩:=uw ak _ c2 o2;obtain⟨w3,u3⟩:=uw ao _ c3 o3;clear uw qe c1 c2 c3 hvn;repeat' first|(refine aC hd0 ?_)|(refine wM ?_;(first|(have _:=bj)|(have _:=az;intro bj)|(have _:=ao;intro az)|(have _:=ak;intro ao)|(have _:=ah;intro ak)|(intro ah));intros)|refine wV ?_|(refine wY ?_ ?_<;>intro h)|refine wh @ai @bn @w1 @w2 @w3 @ac.{0,0} @ad.{0,0} ?_|exact yz @ai @bn @w1 @w2 @w3 @ac.{0,0} @ad.{0,0}|fail
   all_goals try(exfalso;omega)
   have yj:xw az=none:=bc;have n41:az≠ah:=fun e=>by rw[e,w1] at yj;cases yj
   have n42:az≠ak:=fun e=>by rw[e,w2] at yj;cases yj
   have n43:az≠ao:=fun e=>by rw[e,w3] at yj;cases yj
   have n14:=bf n41;have n24:=bf n42;have n34:=bf n43;have u4:fy m l q0 b B0 f x.fl d sm g v x.mask z0 [] az=none:=by
    cases hc:fy m l q0 b B0 f x.fl d sm g v x.mask z0 [] az with
    |none=>rfl
    |some o=>rw[ez az o hc] at yj;cases yj
   have hI0:BeI x J B0 z0 z0 [B0]:=⟨hW,v0,⟨rfl,rfl,rfl⟩,by rw[hB0e] at hJ0;exact hJ0 z0 z0l.1 z0l.2.1 z0l.2.2⟩
   refine aG (α:=Nat×Nat×Bool×Nat×VS×List (List MV)×VS×Nat×List (List MV)×List BK) (fun s=>⟨103,[(5,.int .i64 (s.1:Int)),(3,.ptr ao 0 0),(2,.ptr ak 0 0),(1,.ptr ah 0 0)],[]⟩)
    (fun s=>((((fy m l s.2.1 b (kM B0 (x.post.take s.1)) f x.fl s.2.2.1 sm s.2.2.2.1 v x.mask s.2.2.2.2.1 s.2.2.2.2.2.1).set ah X).set ak Y).set ao (py (.ptr b 0 0) (.ptr v 0 0) (kM B0 (x.post.take s.1)) x.fl false x.mask s.2.2.2.2.2.2.1 (.vec 5 s.2.2.2.2.2.2.2.1 0 s.2.2.2.2.2.2.2.2.2.length))).set s.2.2.2.2.2.2.2.1 (.row 47 5 (s.2.2.2.2.2.2.2.2.2.map aa++s.2.2.2.2.2.2.2.2.1)))
    (fun s=>(s.1≤x.post.length∧mM m l s.2.1 b f sm s.2.2.2.1 v∧BeI x J (kM B0 (x.post.take s.1)) s.2.2.2.2.1 s.2.2.2.2.2.2.1 s.2.2.2.2.2.2.2.2.2)∧s.2.2.2.2.2.2.2.2.2.length≤1+1000*s.1 ∧
     (s.2.2.2.2.2.2.2.1≠ah∧s.2.2.2.2.2.2.2.1≠ak∧s.2.2.2.2.2.2.2.1≠ao)∧∀j,j=ah∨j=ak∨j=ao∨j=s.2.2.2.2.2.2.2.1→fy m l s.2.1 b (kM B0 (x.post.take s.1)) f x.fl s.2.2.1 sm s.2.2.2.1 v x.mask s.2.2.2.2.1 s.2.2.2.2.2.1 j=none) (fun s=>x.post.length-s.1) ?_ ?_
   ·refine .step (aR.XW (b:=ao) (t:=106) (e:=13) (l1:=[(5,.int .i64 0),(3,.ptr ao 0 0),(2,.ptr ak 0 0),(1,.ptr ah 0 0)]) [.ptr b 0 0,.ptr v 0 0,.int .i64 B0.sq,.int .i64 B0.nx,.aj 27 (B0.ae.map CA.c) false,.aj 3 (B0.dead.map DE.c) false,.aj 2 (B0.gr.map GR.c) false,.aj 5 (x.fl.map ND.c) false,.int .u32 (x.mask.toNat:Int),.int .i64 B0.sq,.int .i64 B0.sq] [.vec 5 az 0 1] 31 false ((cn n34).trans cj) ?_)
     (.of (aR.drop (σ1:=((((fy m l q0 b B0 f x.fl d sm g v x.mask z0 []).set ah X).set ak Y).set ao (py (.ptr b 0 0) (.ptr v 0 0) B0 x.fl false x.mask z0 (.vec 5 az 0 1))).set az (.row 47 5 ([B0].map aa++[]))) ?_) ⟨(0,q0,d,g,z0,[],z0,az,[],[B0]),rfl,rfl,⟨be _,V,hI0⟩,ax,⟨n41,n42,n43⟩,?_⟩)
    ·exact wW
    ·refine b0 (b0 (b0 (b0 (fun j o hj=>?_) ?_) ?_) ?_) ?_
     ·have j3:j≠ao:=fun e=>by rw[e,u3] at hj;cases hj
      have j4:j≠az:=fun e=>by rw[e,u4] at hj;cases hj
      rw[cn j3,cn j4,cn j3];exact ez j o hj
     ·rw[cn n13,cn n14,cn n13,←hX];exact w1
     ·rw[cn n23,cn n24,cn n23];exact w2
     ·rw[aD,py,z0l.1,z0l.2.1,z0l.2.2];rfl
     ·rw[cn n43];exact cj
    ·rintro j (rfl|rfl|rfl|rfl)
     ·exact u1
     ·exact u2
     ·exact u3
     ·exact u4
   ·clear ez w1 w2 w3 u1 u2 u3 u4 yj V v0 z0l wc hI0 D0 hd0;rintro⟨i,q1,d1,g1,z,ex,w,r,pt,al⟩ ⟨⟨hi,V1,hI⟩,haln,⟨r1,r2,r3⟩,lx⟩;simp only at hi V1 hI haln r1 r2 r3 lx ⊢;have o1:=lx ah (.inl rfl);have o2:=lx ak (.inr (.inl rfl));have o3:=lx ao (.inr (.inr (.inl rfl)));have o4:=lx r (.inr (.inr (.inr rfl)));have r1':=bf r1;have r2':=bf r2;have r3':=bf r3;clear lx;by_cases bh:i<x.post.length
    ·obtain⟨e,he⟩:=bX x.post bh;have ay:=bJ (f:=ED.c) he;have cc:=DX B0 (x.post.take i) e;rw[←aW he] at cc;obtain⟨W,hWe⟩:∃W,kM B0 (x.post.take i)=W:=⟨_,rfl⟩
     rw[hWe] at cc hI o1 o2 o3 o4 ⊢;obtain⟨rp,hV,h3,hJ⟩:=hI;have hpd:=DS rp V1.D [] e;have hds:=vF rp e;have iq:=P6 rp e;have hJ2:=hJ1 _ _ _ e rp hV hJ;obtain⟨hV2,h32⟩:=NI rp hV h3 e (mk:=x.mask);have hlen:=hV.len;have hde:=fun al'=>GB ao (.ptr b 0 0) (.ptr v 0 0) al' rp iz false x.mask w (by rw[←h3.2.2];exact hlen) e;have hW2:=doW rp e;have qt:∀{j:Nat},fy m l q1 b W f x.fl d1 sm g1 v x.mask z ex j=none→dh m l q1 b W [] j=none:=fun h=>by have:=Gd.1 h;exact gE this.2.2.2.2.2.2.2 this.2.2.2.2.2.2.1 this.2.2.2.2.2.1 this.2.2.2.2.1
     obtain⟨Z,hZ⟩:∃Z:aY,.row 47 5 (al.map aa++pt)=Z:=⟨_,rfl⟩
     rw[hZ];have qe:(fy m l q1 b W f x.fl d1 sm g1 v x.mask z ex).le (((((fy m l q1 b W f x.fl d1 sm g1 v x.mask z ex).set ah X).set ak Y).set ao (py (.ptr b 0 0) (.ptr v 0 0) W x.fl false x.mask w (.vec 5 r 0 al.length))).set r Z):=cO (cO (cO (cO ba o1) o2) o3) o4;have c1:(((((fy m l q1 b W f x.fl d1 sm g1 v x.mask z ex).set ah X).set ak Y).set ao (py (.ptr b 0 0) (.ptr v 0 0) W x.fl false x.mask w (.vec 5 r 0 al.length))).set r Z) ah=some (.row 26 4 [x.c]):=by simp[bz, *]
     have c2:(((((fy m l q1 b W f x.fl d1 sm g1 v x.mask z ex).set ah X).set ak Y).set ao (py (.ptr b 0 0) (.ptr v 0 0) W x.fl false x.mask w (.vec 5 r 0 al.length))).set r Z) ak=some Y:=by simp[bz, *]
     have c3:(((((fy m l q1 b W f x.fl d1 sm g1 v x.mask z ex).set ah X).set ak Y).set ao (py (.ptr b 0 0) (.ptr v 0 0) W x.fl false x.mask w (.vec 5 r 0 al.length))).set r Z) ao=some (py (.ptr b 0 0) (.ptr v 0 0) W x.fl false x.mask w (.vec 5 r 0 al.length)):=by simp[bz, *]
     have c4:(((((fy m l q1 b W f x.fl d1 sm g1 v x.mask z ex).set ah X).set ak Y).set ao (py (.ptr b 0 0) (.ptr v 0 0) W x.fl false x.mask w (.vec 5 r 0 al.length))).set r Z) r=some Z:=cj;obtain⟨Z0,qz⟩:∃Z0,((((fy m l q1 b W f x.fl d1 sm g1 v x.mask z ex).set ah X).set ak Y).set ao (py (.ptr b 0 0) (.ptr v 0 0) W x.fl false x.mask w (.vec 5 r 0 al.length))).set r Z=Z0:=⟨_,rfl⟩
     rw[qz] at qe c1 c2 c3 c4 ⊢;clear qz he;repeat' first|(refine wM ?_;(first|(have _:=bj)|(have _:=az;intro bj)|(have _:=ao;intro az)|(have _:=ak;intro ao)|(have _:=ah;intro ak)|(intro ah));intros)|refine wV ?_|(refine wY ?_ ?_<;>intro h)|refine wZ9 @ai @ay @Z8 @c1 @c2 @c3 @c4 @ac.{0,0} @ad.{0,0} ?_|simp(maxSteps:=4000000) (disch:=first|exact gd|fail) only[go_sem,simprocAttr,ai,ay,Z8,c1,c2,c3,c4,ac,ad]|fail
     all_goals try(exfalso;omega)
     refine bZ mixed (fun _ _=>none) [_,_,_,_,_,_,_] [_,_,_,_,_] rfl dK ?_;repeat' first|(refine wM ?_;(first|(have _:=bj)|(have _:=az;intro bj)|(have _:=ao;intro az)|(have _:=ak;intro ao)|(have _:=ah;intro ak)|(intro ah));intros)|refine wV ?_|(refine wY ?_ ?_<;>intro h)|refine wZ9 @ai @ay @Z8 @c1 @c2 @c3 @c4 @ac.{0,0} @ad.{0,0} ?_|simp(maxSteps:=4000000) (disch:=first|exact gd|fail) only[go_sem,simprocAttr,ai,ay,Z8,c1,c2,c3,c4,ac,ad]|fail
     all_goals try(exfalso;omega)
     refine gJ (fun j o hj=>qe j o (XH V1 j o hj)) hpd ?_;rintro _ za τa ⟨q2,D2,rfl,rfl⟩ hlea ux;obtain⟨V2,ez⟩:=VK V1 D2 hlea (fun j o hj hn=>ux j o (qe j o hj) hn);obtain⟨a1,b1⟩:=ux ah _ c1 (qt o1);obtain⟨a2,b2⟩:=ux ak _ c2 (qt o2);obtain⟨a3,b3⟩:=ux ao _ c3 (qt o3);obtain⟨a4,b4⟩:=ux r _ c4 (qt o4);have hvn:∀{j:Nat},fy m l q1 b W f x.fl d1 sm g1 v x.mask z ex j=none→dh m l q2 b (fw W e) [] j=none→fy m l q2 b (fw W e) f x.fl d1 sm g1 v x.mask z ex j=none:=fun h h'=>by obtain⟨e1,e2,e3,e4,e5,e6,e7,e8⟩:=Gd.1 h;simp only[aM] at h';exact Gd.2 ⟨e1,e2,e3,e4,e5,h'.2.1,e7,e8⟩
     have p1:=hvn o1 b1;have p2:=hvn o2 b2;have p3:=hvn o3 b3;have p4:=hvn o4 b4;clear ux qe c1 c2 c3 c4 qt hvn o1 o2 o3 o4 b1 b2 b3 b4 hpd V1 hlea;have dg:=Fz rp (x:=e) iz V2 d1 z hlen ex (mk:=x.mask);obtain⟨VV,hVV⟩:∃V,lp W e=V:=⟨_,rfl⟩
     obtain⟨EE,hEE⟩:∃E,iv W e=E:=⟨_,rfl⟩
     obtain⟨z2,qb⟩:∃z2,gD (fw W e) x.fl x.mask z (dF W.sq (mb W e))=z2:=⟨_,rfl⟩
     obtain⟨w2,uh⟩:∃w2,k9 x.fl x.mask w W (dL W e) (dF W.sq (mb W e))=w2:=⟨_,rfl⟩
     obtain⟨SS,hSS⟩:∃S,dL W e=S:=⟨_,rfl⟩
     obtain⟨W2,hW2e⟩:∃W2,fw W e=W2:=⟨_,rfl⟩
     simp only[hVV,hEE,uh,hW2e] at hde;rw[hVV,qb,hW2e] at dg;rw[hVV,hEE];rw[qb] at hV2 hJ2 h32;rw[uh] at h32;rw[hSS] at hds iq hJ2;rw[hW2e] at hV2 ez p1 p2 p3 p4 cc hJ2 hW2;repeat' first|(refine wM ?_;(first|(have _:=bj)|(have _:=az;intro bj)|(have _:=ao;intro az)|(have _:=ak;intro ao)|(have _:=ah;intro ak)|(intro ah));intros)|refine wV ?_|(refine wY ?_ ?_<;>intro h)|refine wZ9 @ai @ay @Z8 @a1 @a2 @a3 @a4 @ac.{0,0} @ad.{0,0} ?_|simp(maxSteps:=4000000) (disch:=first|exact gd|fail) only[go_sem,simprocAttr,ai,ay,Z8,a1,a2,a3,a4,ac,ad]|fail
     all_goals try(exfalso;omega)
     refine gJ ez dg ?_;rintro _ za τc ⟨d3,g3,ex3,V3,rfl⟩ hlec hfrc;obtain⟨c1,s1⟩:=hfrc ah _ a1 p1;obtain⟨c2,s2⟩:=hfrc ak _ a2 p2;obtain⟨c3,s3⟩:=hfrc ao _ a3 p3;obtain⟨c4,s4⟩:=hfrc r _ a4 p4;clear hfrc a1 a2 a3 a4 p1 p2 p3 p4 dg ez;rw[←hZ] at c4;have hAl:(al.map aa).length=al.length:=ag _;have rk:(SS.map aa).length=SS.length:=ag _;have hmap:(al++SS).map aa=al.map aa++SS.map aa:=a0;have vh:(al++SS).length=al.length+SS.length:=an;have hI2:BeI x J W2 z2 w2 (al++SS):=⟨hW2,hV2,h32,hJ2⟩
     obtain⟨L,hL⟩:∃L,al.map aa=L:=⟨_,rfl⟩
     obtain⟨S,hS⟩:∃S,SS.map aa=S:=⟨_,rfl⟩
     rw[hL] at c4 hAl hmap;rw[hS] at hds rk hmap;have fi:(L++pt).take al.length=L:=List.take_left' hAl;have gv:∀n,(L++pt).drop (al.length+n)=pt.drop n:=fun n=>by rw[←List.drop_drop,List.drop_left' hAl]
     obtain⟨C,k1⟩:=kw1 19 ⟨[],fun v=>v=.aj 5 S false,none⟩;clear hJ hV h3 hJ2 h32;repeat' first|(refine aJ mixed dK C ?_)|(with_reducible refine aF (k1 _) hds ?_)|(refine wM ?_;(first|(have _:=bj)|(have _:=az;intro bj)|(have _:=ao;intro az)|(have _:=ak;intro ao)|(have _:=ah;intro ak)|(intro ah));intros)|refine wV ?_|(refine wY ?_ ?_<;>intro h)|refine wZ13 @ai @ay @Z8 @c1 @c2 @c3 @c4 @hAl @rk @fi @gv @ac.{0,0} @ad.{0,0} ?_|simp(maxSteps:=4000000) (disch:=first|exact gd|fail) only[go_sem,simprocAttr,ai,ay,Z8,c1,c2,c3,c4,hAl,rk,fi,gv,ac,ad]|fail
     all_goals try(exfalso;omega)
     ·obtain rfl:pt=[]:=aI oM;rw[show L++[]++S=L++S++[] by simp];clear h fi gv c4;obtain⟨uc,hB⟩:∃uc,([]:List (List MV))=uc:=⟨_,rfl⟩
      rw[hB];have te:τc bj=none:=bc;have n51:bj≠ah:=fun e=>by rw[e,c1] at te;cases te
      have n52:bj≠ak:=fun e=>by rw[e,c2] at te;cases te
      have n53:bj≠ao:=fun e=>by rw[e,c3] at te;cases te
      have n15:=bf n51;have n25:=bf n52;have n35:=bf n53;have s5:fy m l q2 b W2 f x.fl d3 sm g3 v x.mask z2 ex3 bj=none:=by
       cases hc:fy m l q2 b W2 f x.fl d3 sm g3 v x.mask z2 ex3 bj with
       |none=>rfl
       |some o=>rw[hlec bj o hc] at te;cases te
      have e1:((τc.del r).set bj (.row 47 5 (L++S++uc))) ah=some (.row 26 4 [x.c]):=by simp[bz,b5, *]
      have e2:((τc.del r).set bj (.row 47 5 (L++S++uc))) ak=some Y:=by simp[bz,b5, *]
      have e3:((τc.del r).set bj (.row 47 5 (L++S++uc))) ao=some (py (.ptr b 0 0) (.ptr v 0 0) W x.fl false x.mask w (.vec 5 r 0 al.length)):=by simp[bz,b5, *]
      have e4:((τc.del r).set bj (.row 47 5 (L++S++uc))) bj=some (.row 47 5 (L++S++uc)):=cj;have hled:(fy m l q2 b W2 f x.fl d3 sm g3 v x.mask z2 ex3).le ((τc.del r).set bj (.row 47 5 (L++S++uc))):=fun j o hj=>by
       have j5:j≠bj:=fun e=>by rw[e,s5] at hj;cases hj
       have jr:j≠r:=fun e=>by rw[e,s4] at hj;cases hj
       rw[cn j5];simp only[b5,if_neg jr];exact hlec j o hj
      obtain⟨τd,hτd⟩:∃τd,(τc.del r).set bj (.row 47 5 (L++S++uc))=τd:=⟨_,rfl⟩
      rw[hτd] at e1 e2 e3 e4 hled ⊢;have hde2:=hde (.vec 5 bj 0 (al.length+SS.length));clear hτd hds k1 hlec c1 c2 c3 hde;repeat' first|(refine cB (o:=py (.ptr b 0 0) (.ptr v 0 0) W x.fl false x.mask w (.vec 5 bj 0 (al.length+SS.length))) (by simp[bz, *];done) hde2 ?_)|(refine wM ?_;(first|(have _:=bj)|(have _:=az;intro bj)|(have _:=ao;intro az)|(have _:=ak;intro ao)|(have _:=ah;intro ak)|(intro ah));intros)|refine wV ?_|(refine wY ?_ ?_<;>intro h)|refine vu @ai @ay @Z8 @e1 @e2 @e3 @ac.{0,0} @ad.{0,0} ?_|exact xu @ai @ay @Z8 @e1 @e2 @e3 @ac.{0,0} @ad.{0,0}|fail
      all_goals try(exfalso;omega)
      all_goals
       refine .of (.less ?_ (σ1:=((((fy m l q2 b W2 f x.fl d3 sm g3 v x.mask z2 ex3).set ah X).set ak Y).set ao (py (.ptr b 0 0) (.ptr v 0 0) W2 x.fl false x.mask w2 (.vec 5 bj 0 (al++SS).length))).set bj (.row 47 5 ((al++SS).map aa++uc))) ?_) ⟨(i+1,q2,d3,g3,z2,ex3,w2,bj,uc,al++SS),rfl,by simp only[cc],⟨⟨by simp only;omega,V3,by simp only[cc];exact hI2⟩,by simp only;omega,⟨n51,n52,n53⟩,?_⟩,by simp only;omega⟩
       ·exact wW
       ·simp only[hmap,vh];refine b0 (b0 (b0 (b0 (fun j o hj=>?_) ?_) ?_) ?_) ?_
        ·have j3:j≠ao:=fun e=>by rw[e,s3] at hj;cases hj
         simp only[cn j3];exact hled j o hj
        ·simp only[cn n13];rw[←hX];exact e1
        ·simp only[cn n23];exact e2
        ·exact cj
        ·simp only[cn n53];exact e4
       ·simp only[cc];rintro j (rfl|rfl|rfl|rfl)
        ·exact s1
        ·exact s2
        ·exact s3
        ·exact s5
     ·clear h fi gv c4;obtain⟨uc,hB⟩:∃uc,List.drop SS.length pt=uc:=⟨_,rfl⟩
      rw[hB];have te:τc bj=none:=bc;have n51:bj≠ah:=fun e=>by rw[e,c1] at te;cases te
      have n52:bj≠ak:=fun e=>by rw[e,c2] at te;cases te
      have n53:bj≠ao:=fun e=>by rw[e,c3] at te;cases te
      have n15:=bf n51;have n25:=bf n52;have n35:=bf n53;have s5:fy m l q2 b W2 f x.fl d3 sm g3 v x.mask z2 ex3 bj=none:=by
       cases hc:fy m l q2 b W2 f x.fl d3 sm g3 v x.mask z2 ex3 bj with
       |none=>rfl
       |some o=>rw[hlec bj o hc] at te;cases te
      have e1:((τc.del r).set bj (.row 47 5 (L++S++uc))) ah=some (.row 26 4 [x.c]):=by simp[bz,b5, *]
      have e2:((τc.del r).set bj (.row 47 5 (L++S++uc))) ak=some Y:=by simp[bz,b5, *]
      have e3:((τc.del r).set bj (.row 47 5 (L++S++uc))) ao=some (py (.ptr b 0 0) (.ptr v 0 0) W x.fl false x.mask w (.vec 5 r 0 al.length)):=by simp[bz,b5, *]
      have e4:((τc.del r).set bj (.row 47 5 (L++S++uc))) bj=some (.row 47 5 (L++S++uc)):=cj;have hled:(fy m l q2 b W2 f x.fl d3 sm g3 v x.mask z2 ex3).le ((τc.del r).set bj (.row 47 5 (L++S++uc))):=fun j o hj=>by
       have j5:j≠bj:=fun e=>by rw[e,s5] at hj;cases hj
       have jr:j≠r:=fun e=>by rw[e,s4] at hj;cases hj
       rw[cn j5];simp only[b5,if_neg jr];exact hlec j o hj
      obtain⟨τd,hτd⟩:∃τd,(τc.del r).set bj (.row 47 5 (L++S++uc))=τd:=⟨_,rfl⟩
      rw[hτd] at e1 e2 e3 e4 hled ⊢;have hde2:=hde (.vec 5 bj 0 (al.length+SS.length));clear hτd hds k1 hlec c1 c2 c3 hde;repeat' first|(refine cB (o:=py (.ptr b 0 0) (.ptr v 0 0) W x.fl false x.mask w (.vec 5 bj 0 (al.length+SS.length))) (by simp[bz, *];done) hde2 ?_)|(refine wM ?_;(first|(have _:=bj)|(have _:=az;intro bj)|(have _:=ao;intro az)|(have _:=ak;intro ao)|(have _:=ah;intro ak)|(intro ah));intros)|refine wV ?_|(refine wY ?_ ?_<;>intro h)|refine vu @ai @ay @Z8 @e1 @e2 @e3 @ac.{0,0} @ad.{0,0} ?_|exact xu @ai @ay @Z8 @e1 @e2 @e3 @ac.{0,0} @ad.{0,0}|fail
      all_goals try(exfalso;omega)
      all_goals
       refine .of (.less ?_ (σ1:=((((fy m l q2 b W2 f x.fl d3 sm g3 v x.mask z2 ex3).set ah X).set ak Y).set ao (py (.ptr b 0 0) (.ptr v 0 0) W2 x.fl false x.mask w2 (.vec 5 bj 0 (al++SS).length))).set bj (.row 47 5 ((al++SS).map aa++uc))) ?_) ⟨(i+1,q2,d3,g3,z2,ex3,w2,bj,uc,al++SS),rfl,by simp only[cc],⟨⟨by simp only;omega,V3,by simp only[cc];exact hI2⟩,by simp only;omega,⟨n51,n52,n53⟩,?_⟩,by simp only;omega⟩
       ·exact wW
       ·simp only[hmap,vh];refine b0 (b0 (b0 (b0 (fun j o hj=>?_) ?_) ?_) ?_) ?_
        ·have j3:j≠ao:=fun e=>by rw[e,s3] at hj;cases hj
         simp only[cn j3];exact hled j o hj
        ·simp only[cn n13];rw[←hX];exact e1
        ·simp only[cn n23];exact e2
        ·exact cj
        ·simp only[cn n53];exact e4
       ·simp only[cc];rintro j (rfl|rfl|rfl|rfl)
        ·exact s1
        ·exact s2
        ·exact s3
        ·exact s5
    ·obtain rfl:i=x.post.length:=oM;rw[au] at hI o1 o2 o3 o4 ⊢;obtain⟨W,hWe⟩:∃W,kM B0 x.post=W:=⟨_,rfl⟩
     rw[hWe] at hI o1 o2 o3 o4 ⊢;have qe:(fy m l q1 b W f x.fl d1 sm g1 v x.mask z ex).le (((((fy m l q1 b W f x.fl d1 sm g1 v x.mask z ex).set ah X).set ak Y).set ao (py (.ptr b 0 0) (.ptr v 0 0) W x.fl false x.mask w (.vec 5 r 0 al.length))).set r (.row 47 5 (al.map aa++pt))):=cO (cO (cO (cO ba o1) o2) o3) o4;have c1:(((((fy m l q1 b W f x.fl d1 sm g1 v x.mask z ex).set ah X).set ak Y).set ao (py (.ptr b 0 0) (.ptr v 0 0) W x.fl false x.mask w (.vec 5 r 0 al.length))).set r (.row 47 5 (al.map aa++pt))) ah=some (.row 26 4 [x.c]):=by simp[bz, *]
     have c2:(((((fy m l q1 b W f x.fl d1 sm g1 v x.mask z ex).set ah X).set ak Y).set ao (py (.ptr b 0 0) (.ptr v 0 0) W x.fl false x.mask w (.vec 5 r 0 al.length))).set r (.row 47 5 (al.map aa++pt))) ak=some (.row 106 13 [[.ej,.ej,.int .i64 0,.int .i64 0,.aK,.aK,.aK,.aK,.int .u32 0,.int .i64 0,.int .i64 0,.aK,.aK]]):=by simp[bz, *]
     have c3:(((((fy m l q1 b W f x.fl d1 sm g1 v x.mask z ex).set ah X).set ak Y).set ao (py (.ptr b 0 0) (.ptr v 0 0) W x.fl false x.mask w (.vec 5 r 0 al.length))).set r (.row 47 5 (al.map aa++pt))) ao=some (py (.ptr b 0 0) (.ptr v 0 0) W x.fl false x.mask w (.vec 5 r 0 al.length)):=by simp[bz, *]
     have c4:(((((fy m l q1 b W f x.fl d1 sm g1 v x.mask z ex).set ah X).set ak Y).set ao (py (.ptr b 0 0) (.ptr v 0 0) W x.fl false x.mask w (.vec 5 r 0 al.length))).set r (.row 47 5 (al.map aa++pt))) r=some (.row 47 5 (al.map aa++pt)):=cj;obtain⟨Z0,qz⟩:∃Z0,((((fy m l q1 b W f x.fl d1 sm g1 v x.mask z ex).set ah X).set ak Y).set ao (py (.ptr b 0 0) (.ptr v 0 0) W x.fl false x.mask w (.vec 5 r 0 al.length))).set r (.row 47 5 (al.map aa++pt))=Z0:=⟨_,rfl⟩
     rw[qz] at qe c1 c2 c3 c4 ⊢;clear qz;repeat' first|(refine wM ?_;(first|(have _:=bj)|(have _:=az;intro bj)|(have _:=ao;intro az)|(have _:=ak;intro ao)|(have _:=ah;intro ak)|(intro ah));intros)|refine wV ?_|(refine wY ?_ ?_<;>intro h)|refine vu @ai @Z8 @c1 @c2 @c3 @c4 @ac.{0,0} @ad.{0,0} ?_|exact xu @ai @Z8 @c1 @c2 @c3 @c4 @ac.{0,0} @ad.{0,0}|fail
     all_goals try(exfalso;omega)
     have rn5:((al.map aa++pt).drop 0).take al.length=al.map aa:=by rw[List.drop_zero];exact List.take_left' (ag _)
     have hvw:View (bx.set r (.row 47 5 (al.map aa++pt))) (.vec 5 r 0 al.length) (.aj 5 (al.map aa) false):=by
      have h9:=View.vec (lo:=0) (n:=al.length) (aD bx r (.row 47 5 (al.map aa++pt))) ax
      rwa [rn5] at h9
     refine .of (aR.freeze (l1:=[(0,.agg (beC (.ptr b 0 0) (.ptr v 0 0) W x.fl false x.mask w (.aj 5 (al.map aa) false)))]) (σ1:=fy m l q1 b W f x.fl d1 sm g1 v x.mask z ex) (bx.set r (.row 47 5 (al.map aa++pt))) (b0 bt ?_) ?_ ?_ ?_) ⟨_,rfl,?_⟩
     ·rw[cn r2];exact c4
     ·intro j o hj;have j2:j≠ak:=fun e=>by rw[e,o2] at hj;cases hj
      rw[cn j2];exact qe j o hj
     ·exact fun k o hk=>(cn (fun e=>by rw[e,o4] at hk;cases hk)).trans rfl
     ·intro p hp;simp only[ap,am,or_false] at hp;subst hp;exact View.Wc ⟨.same _,.same _,.same _,.same _,.same _,.same _,.same _,.same _,.same _,.same _,.same _,.same _,hvw,trivial⟩ rfl
     ·refine⟨m,l,q1,b,f,d1,sm,g1,v,z,w,al,ex,V1,?_,oM,?_,?_⟩
      ·rw[hB0e,hWe];exact hI
      ·rw[hB0e,hWe]
      ·rw[hB0e,hWe]
def ItV(τ:St)(zu:List IT)(w:MV)(af:St):Prop:=(zu=[]∧w=.aK∧af=τ)∨∃q,τ q=none∧w=.vec 28 q 0 zu.length∧af=τ.set q (.row 164 28 (zu.map ab))
def ItL(τ:St)(zu:List IT)(w:MV)(af:St):Prop:=(zu=[]∧w=.aK∧τ.le af)∨∃q,τ q=none∧w=.vec 28 q 0 zu.length∧(τ.set q (.row 164 28 (zu.map ab))).le af
def EB{τ af:St}{zu:List IT}{w:MV}(h:ItL τ zu w af):∃za,za.le af∧ItV τ zu w za:=by
 rcases h with⟨h1,h2,h3⟩|⟨q,h1,h2,h3⟩
 ·exact⟨_,h3,.inl ⟨h1,h2,rfl⟩⟩
 ·exact⟨_,h3,.inr ⟨q,h1,h2,rfl⟩⟩
def Gc{P:Program}{g:FuncId}{ms:List MV}{σ τ:St}{zu:List IT}{u:MV→MV}{k:MV→St→Prop}(h:aA P g ms τ fun v af=>∃w,v=u w∧ItV τ zu w af)(hle:τ.le σ)
 (h1:zu=[]→R (cD (u .aK) σ k))(h2:∀q,σ q=none→R (cD (u (.vec 28 q 0 zu.length)) (σ.set q (.row 164 28 (zu.map ab))) k)):R (dR P g ms σ k) :=
 bU h hle fun v af hv hf=>by
  obtain⟨w,rfl,hi⟩:=hv;rcases hi with⟨e,rfl,rfl⟩|⟨q,hq,rfl,rfl⟩
  ·rw[nA hle];exact h1 e
  ·rw[bS,nA hle];refine h2 q ?_;rcases hf q _ cj with h|⟨o',h⟩
   ·exact h
   ·rw[hq] at h;cases h
def Ll(l:List TU)(hl:l.length≤1000000)(hid:∀t,t∈l→1≤t.id∧t.id<1073741824)(tt:Bool):aA Tryz.prog 174 [.aj 31 (l.map TU.c) tt] bx (fun r af=>∃q,r=.vec 28 q 0 (mA l).length∧af=bx.set q (.row 164 28 ((mA l).map ab))):=by
 refine aA.gh (mB 66 [.tmp 2] Tryz.func174 ?_);repeat' first|(refine wM ?_;(first|(have _:=bj)|(have _:=az;intro bj)|(have _:=ao;intro az)|(have _:=ak;intro ao)|(have _:=ah;intro ak)|(intro ah));intros)|refine wV ?_|(refine wY ?_ ?_<;>intro h)|refine aw @Tryz.f174.eq_1 ?_|exact ev @Tryz.f174.eq_1|fail
 have n21:ak≠ah:=bc;have n12:=bf n21;refine aG (α:=Nat×List (MV×MV)×List (MV×MV)) (fun z=>⟨66,[(18,.int .i64 (z.1:Int)),(17,.int .i64 (l.length:Int)),(16,.aj 31 (l.map TU.c) tt),(3,.db ah),(4,.db ak)],[]⟩)
  (fun z=>(bx.set ah (.mp z.2.1)).set ak (.mp z.2.2)) (fun z=>z.1≤l.length∧Gk (l.take z.1) z.2.1∧LX (l.take z.1) z.2.2) (fun z=>l.length-z.1) (.of (.less ?_ ba) ⟨(0,[],[]),rfl,rfl,be _,H0,N2⟩) ?_
 ·exact wW
 ·rintro⟨i,e1,e2⟩ ⟨hi,hM,hL⟩;simp only at hi hM hL ⊢;by_cases bh:i<l.length
  ·obtain⟨x,hx⟩:=bX l bh;have ay:=bJ (f:=TU.c) hx;have hN:=Kc hL x;rw[←aW hx] at hN;have hg:=hM.g x.id;have ZD:=hM.k;have yu:=hL.k;cases ho:lQ (l.take i) x.id with
   |none =>
    rw[ho,Option.map_none] at hg;have hO:=HZ hM ho;rw[←aW hx] at hO;repeat' first|(refine wM ?_;(first|(have _:=bj)|(have _:=az;intro bj)|(have _:=ao;intro az)|(have _:=ak;intro ao)|(have _:=ah;intro ak)|(intro ah));intros)|refine wV ?_|(refine wY ?_ ?_<;>intro h)|refine wZ9 @ai @ay @hg @ZD @yu @bp.{0} @bs.{0} @bg.{0} @bi.{0} ?_|simp(maxSteps:=4000000) (disch:=first|exact gd|fail) only[go_sem,simprocAttr,ai,ay,hg,ZD,yu,bp,bs,bg,bi]|fail
    all_goals try(exfalso;omega)
    all_goals
     refine .of (.less ?_ (σ1:=(bx.set ah (.mp (dW .i64 x.id (.int .i64 x.old) e1))).set ak (.mp (dW .i64 x.id (.agg x.c) e2))) (ni sS sS)) ⟨(i+1,dW .i64 x.id (.int .i64 x.old) e1,dW .i64 x.id (.agg x.c) e2),rfl,rfl,⟨by simp only;omega,hO,hN⟩,by simp only;omega⟩;exact wW
   |some o =>
    rw[ho,bv] at hg;have hO:=H2 hM ho;rw[←aW hx] at hO;repeat' first|(refine wM ?_;(first|(have _:=bj)|(have _:=az;intro bj)|(have _:=ao;intro az)|(have _:=ak;intro ao)|(have _:=ah;intro ak)|(intro ah));intros)|refine wV ?_|(refine wY ?_ ?_<;>intro h)|refine wZ9 @ai @ay @hg @ZD @yu @bp.{0} @bs.{0} @bg.{0} @bi.{0} ?_|simp(maxSteps:=4000000) (disch:=first|exact gd|fail) only[go_sem,simprocAttr,ai,ay,hg,ZD,yu,bp,bs,bg,bi]|fail
    all_goals try(exfalso;omega)
    all_goals
     refine .of (.less ?_ (σ1:=(bx.set ah (.mp e1)).set ak (.mp (dW .i64 x.id (.agg x.c) e2))) (ni sS sS)) ⟨(i+1,e1,dW .i64 x.id (.agg x.c) e2),rfl,rfl,⟨by simp only;omega,hO,hN⟩,by simp only;omega⟩;exact wW
  ·obtain rfl:i=l.length:=oM;rw[au] at hM hL;have hk:=Kb ah;have hs:∀{b:Nat},b≠ah→aA Tryz.prog 96 [.fn (.func 182) [] [.ptr b 0 0]] ((bx.set b (.row 131 1 [[.db ah]])).set ah (.mp e1)) fun r af =>
     r=.aj 1 ((fG l).map aU) false∧af=(bx.set b (.row 131 1 [[.db ah]])).set ah (.mp e1):=fun {b} hb=>by
    refine(CX hb hM.k (fun n hn=>?_) (by have:=hM.n;omega)).mono fun r af h=>?_
    ·have:n∈l.map TU.id:=Classical.byContradiction fun hnn=>by have:=(sJ hM.k).1 hn;rw[hM.g,mJ.2 hnn] at this;exact this rfl
     obtain⟨t,h1,rfl⟩:=List.mem_map.1 this;have:=hid t h1;exact Jr oM
    ·obtain⟨⟨ns,h1,h2,rfl⟩,rfl⟩:=h;rw[Pd hM h1 h2];exact⟨rfl,rfl⟩
   have qu:=oS l;have ve:=fun {i:Nat} {id:Int}=>WQ (l:=l) (i:=i) (id:=id);unfold mA;obtain⟨ids,lr⟩:∃ids,fG l=ids:=⟨_,rfl⟩
   rw[lr] at hs qu ⊢;rw[lr] at ve;have hM1:=hM.g;have hL1:=hL.g;have qh:=SC l;have ZD:=hM.k;have yu:=hL.k;clear hM hL;repeat' first|(refine hU hk ?_;(intro b hb;simp only[aM] at hb;obtain⟨b1,b2,-⟩:=hb;have b1':=bf b1;have b2':=bf b2))|((refine dB (hs bc) (ni sS sS) ?_))|(refine wM ?_;(first|(have _:=bj)|(have _:=az;intro bj)|(have _:=ao;intro az)|(have _:=ak;intro ao)|(have _:=ah;intro ak)|(intro ah));intros)|refine wV ?_|(refine wY ?_ ?_<;>intro h)|refine ed ?_|exact ll|fail
   refine aG (α:=Nat×Nat×List (List MV)) (fun s=>⟨66,[(45,.int .i64 (s.1:Int)),(44,.int .i64 (ids.length:Int)),(43,.aj 1 (ids.map aU) false),(3,.db ah),(4,.db ak),(9,.vec 28 s.2.1 0 ((ids.take s.1).flatMap (km l)).length)],[]⟩)
    (fun s=>((bx.set ah (.mp e1)).set ak (.mp e2)).set s.2.1 (.row 164 28 (((ids.take s.1).flatMap (km l)).map ab++s.2.2))) (fun s=>s.1≤ids.length∧s.2.1≠ah∧s.2.1≠ak) (fun s=>ids.length-s.1) ?_ ?_
   ·refine Gh.yN 164 28 (fun r=>[(45,.int .i64 0),(44,.int .i64 (ids.length:Int)),(43,.aj 1 (ids.map aU) false),(42,.fn (.func 182) [] [.ptr b 0 0]),(41,.db ah),(9,.vec 28 r 0 0),(19,.bool (decide ((l.length:Int)<l.length))),(18,.int .i64 (l.length:Int)),(17,.int .i64 (l.length:Int)),(16,.aj 31 (l.map TU.c) tt),(3,.db ah),(4,.db ak)]) (fun k=>by(repeat' (refine And.intro ?_ ?_))<;>first|exact trivial|exact .inl rfl|exact .inr ⟨rfl,.inl rfl⟩|exact .inr ⟨rfl,.inr rfl⟩) fun r hr=>?_;simp only[aM] at hr;obtain⟨r1,r2,r3,-⟩:=hr;have r2':=bf r2;have r3':=bf r3;refine .of (.less ?_ ?_) ⟨(0,r,[]),rfl,rfl,be _,bc,bc⟩
    ·exact wW
    ·exact b0 (ni sS sS) sS
   ·rintro⟨j,q,ex⟩ ⟨hj,q1,q2⟩;simp only at hj q1 q2 ⊢;have q1':=bf q1;have q2':=bf q2;by_cases bh:j<ids.length
    ·obtain⟨id,hx⟩:=bX ids bh;have ay:=bJ (f:=aU) hx;obtain⟨o,t,ho,ht,hit⟩:=ve hx;have hg1:=hM1 id;have hg2:=hL1 id;rw[ho,bv] at hg1;rw[ht,bv] at hg2;have hw:=Lg o t;have cc:(ids.take (j+1)).flatMap (km l)=(ids.take j).flatMap (km l)++(lT o t).toList:=by rw[aW hx,List.flatMap_append,←hit];simp
     have iw:((ids.take j).flatMap (km l)).length≤j:=Nat.le_trans (qh _) (by rw[av];omega);obtain⟨L,hL⟩:∃L,(ids.take j).flatMap (km l)=L:=⟨_,rfl⟩
     rw[hL] at cc iw ⊢;have fi:(L.map ab++ex).take L.length=L.map ab:=rW;have gv:(L.map ab++ex).drop (L.length+1)=ex.drop 1:=tQ;have tn:(L.map ab).length=L.length:=ag _;have hmi:(ids.map aU).length=ids.length:=ag _;clear hM1 hL1 ve hit hs;cases hi:lT o t with
     |none =>
      rw[hi] at hw cc;simp only[bs,bi,Option.toList_none,List.append_nil] at hw cc;repeat' first|(with_reducible first|refine up hw ?_)|(refine wM ?_;(first|(have _:=bj)|(have _:=az;intro bj)|(have _:=ao;intro az)|(have _:=ak;intro ao)|(have _:=ah;intro ak)|(intro ah));intros)|refine wV ?_|(refine wY ?_ ?_<;>intro h)|refine wZ11 @ai @ay @hmi @ZD @yu @hg1 @hg2 @bp.{0} @bs.{0} @bg.{0} @bi.{0} ?_|simp(maxSteps:=4000000) (disch:=first|exact gd|fail) only[go_sem,simprocAttr,ai,ay,hmi,ZD,yu,hg1,hg2,bp,bs,bg,bi]|fail
      all_goals try(exfalso;omega)
      all_goals
       refine .of (.less ?_ (σ1:=((bx.set ah (.mp e1)).set ak (.mp e2)).set q (.row 164 28 (L.map ab++ex))) (b0 (ni sS sS) sS)) ⟨(j+1,q,ex),rfl,by simp only[cc],⟨by simp only;omega,q1,q2⟩,by simp only;omega⟩;simp only[cc];exact wW
     |some x =>
      rw[hi] at hw cc;simp only[bp,bg,Option.toList_some] at hw cc;have hnm:(L++[x]).map ab=L.map ab++[x.k]:=a0;repeat' first|(with_reducible first|refine up hw ?_)|(refine wM ?_;(first|(have _:=bj)|(have _:=az;intro bj)|(have _:=ao;intro az)|(have _:=ak;intro ao)|(have _:=ah;intro ak)|(intro ah));intros)|refine wV ?_|(refine wY ?_ ?_<;>intro h)|refine wZ14 @ai @ay @hmi @ZD @yu @hg1 @hg2 @tn @fi @gv @bp.{0} @bs.{0} @bg.{0} @bi.{0} ?_|simp(maxSteps:=4000000) (disch:=first|exact gd|fail) only[go_sem,simprocAttr,ai,ay,hmi,ZD,yu,hg1,hg2,tn,fi,gv,bp,bs,bg,bi]|fail
      all_goals try(exfalso;omega)
      ·skip
       obtain rfl:ex=[]:=aI oM;clear h;refine .of (.less ?_ (σ1:=((bx.set ah (.mp e1)).set ak (.mp e2)).set bj (.row 164 28 ((L++[x]).map ab++[]))) ?_) ⟨(j+1,bj,[]),rfl,by simp only[cc],⟨by simp only;omega,bc,bc⟩,by simp only;omega⟩
       ·simp only[cc,an,a7];exact wW
       ·rw[hnm];exact b0 (ni sS sS) sS
      ·clear h;refine .of (.less ?_ (σ1:=((bx.set ah (.mp e1)).set ak (.mp e2)).set bj (.row 164 28 ((L++[x]).map ab++ex.drop 1))) ?_) ⟨(j+1,bj,ex.drop 1),rfl,by simp only[cc],⟨by simp only;omega,bc,bc⟩,by simp only;omega⟩
       ·simp only[cc,an,a7];exact wW
       ·rw[hnm];exact b0 (ni sS sS) sS
    ·obtain rfl:j=ids.length:=oM;rw[au];repeat' first|(refine wM ?_;(first|(have _:=bj)|(have _:=az;intro bj)|(have _:=ao;intro az)|(have _:=ak;intro ao)|(have _:=ah;intro ak)|(intro ah));intros)|refine wV ?_|(refine wY ?_ ?_<;>intro h)|refine ed ?_|exact ll|fail
     all_goals exact .of ((aR.drop (σ1:=bx.set q (.row 164 28 ((ids.flatMap (km l)).map ab++ex))) (b0 bt cj)).trans (aR.cut cj)) ⟨_,rfl,q,rfl,by funext j;by_cases h:j=q<;>simp[bz,h]⟩
def Ij(g:Nat)(l:List TU)(hl:l.length≤1000000)(tl:List (List MV))(f now cur aq:Int)(hid:∀t,t∈l→1≤t.id∧t.id<1073741824)(hq:∀t,t∈l→1≤t.sq∧t.sq≤1099511627776)(hC:xh (lj l f now cur)) :
  aA Tryz.prog 89 [.vec 31 g 0 l.length,.int .i64 f,.int .i64 now,.int .i64 cur,.int .i64 aq] (bx.set g (pk l tl)) (fun r af=>∃w,r=.ar [w,.int .i64 (eS l f now cur aq).2]∧ItV (bx.set g (pk l tl)) (eS l f now cur aq).1 w af):=by
 refine b6 (Q':=fun r af=>∃w,r=.ar [w,.int .i64 (eS l f now cur aq).2]∧ItL (bx.set g (pk l tl)) (eS l f now cur aq).1 w af) (mB 93 [.tmp 10,.tmp 11] Tryz.func89 ?_) fun r af ⟨w,h1,h2⟩=>(EB h2).imp fun τ h=>⟨h.1,w,h1,h.2⟩
 have hs:=Iz g l hl tl f now cur;have hAl:=xO l f now cur;have hAi:∀t,t∈lj l f now cur→1≤t.id∧t.id<1073741824:=fun t h=>hid t (F9.1 h).1;have hAq:∀t,t∈lj l f now cur→1≤t.sq∧t.sq≤1099511627776:=fun t h=>hq t (F9.1 h).1;unfold eS;obtain⟨A,hA⟩:∃A,lj l f now cur=A:=⟨_,rfl⟩
 rw[hA] at hs hC hAl hAi hAq ⊢;have hmx:(if aq<0 then 0 else aq)=(ZS aq:Int):=by unfold ZS;split<;>omega
 have vb:(if 0 > aq then 0 else aq)=(ZS aq:Int):=hmx;obtain⟨pg,hpg⟩:∃n,ZS aq=n:=⟨_,rfl⟩
 rw[hpg] at hmx vb ⊢;have hmA:(A.map TU.c).length=A.length:=ag _;by_cases h0:A=[]
 ·subst h0;have hz:vE [] now (lP [] pg ([]:List TU).length)=([],now):=rfl;rw[hz];repeat' first|(refine dB hs (b0 bt sS) ?_)|(refine wM ?_;(first|(have _:=ah)|(intro ah));intros)|refine wV ?_|(refine wY ?_ ?_<;>intro h)|refine fx @Tryz.f89.eq_1 @hmx @vb ?_|exact tk @Tryz.f89.eq_1 @hmx @vb|fail
  all_goals first|exact⟨_,rfl,.inl ⟨rfl,rfl,ba⟩⟩|exact⟨_,rfl,.inl ⟨rfl,rfl,b0 bt sS⟩⟩|(exfalso;omega)
 have hA0:A.length≠0:=fun h=>h0 (aI h);repeat' first|(refine dB hs (b0 bt sS) ?_)|(refine wM ?_;(first|(have _:=ah)|(intro ah));intros)|refine wV ?_|(refine wY ?_ ?_<;>intro h)|refine jf @Tryz.f89.eq_1 @hmx @vb @hmA ?_|exact ZY @Tryz.f89.eq_1 @hmx @vb @hmA|fail
 all_goals try(exfalso;omega)
 have gn:ah≠g:=bc;have ng:=bf gn;refine aG (α:=Nat×List (MV×MV)) (fun z=>⟨93,[(35,.int .i64 (z.1:Int)),(34,.int .i64 (A.length:Int)),(33,.aj 31 (A.map TU.c) false),(12,.aj 31 (A.map TU.c) false),(13,.db ah),(14,.int .i64 ((mA (A.take z.1)).length:Int)),(15,.int .i64 ((lP A pg z.1:Int)-1)),(2,.int .i64 now),(4,.int .i64 (pg:Int))],[]⟩)
  (fun z=>(bx.set g (pk l tl)).set ah (.mp z.2)) (fun z=>z.1≤A.length∧Gk (A.take z.1) z.2) (fun z=>A.length-z.1) (.of (.less ?_ ba) ⟨(0,[]),rfl,rfl,be _,H0⟩) ?_
 ·simp(maxSteps:=4000000) (disch:=first|decide|assumption|omega|(simp only[wL];omega)) only[go_sem,simprocAttr,bE,aX];all_goals first|rfl|(simp[mA,fG,lP];done)
 ·rintro⟨i,es⟩ ⟨hi,hM⟩;simp only at hi hM ⊢;by_cases bh:i<A.length
  ·obtain⟨x,hx⟩:=bX A bh;have ay:=bJ (f:=TU.c) hx;have hn:=O7 (hC.at hx);rw[←aW hx] at hn;have hF:=sE A pg i;obtain⟨K,hK⟩:∃K,(mA (A.take i)).length=K:=⟨_,rfl⟩
   obtain⟨K2,hK2⟩:∃K,(mA (A.take (i+1))).length=K:=⟨_,rfl⟩
   obtain⟨F,hF0⟩:∃F,lP A pg i=F:=⟨_,rfl⟩
   obtain⟨F2,hF2⟩:∃F,lP A pg (i+1)=F:=⟨_,rfl⟩
   have hKl:K≤i:=by have h1:=vV (A.take i);have h2:=oS (A.take i);rw[av] at h2;omega
   rw[hK,hK2] at hn;rw[hK2,hF0,hF2] at hF;have hg:=hM.g x.id;have hk:=hM.k;rw[hK,hF0];cases ho:lQ (A.take i) x.id with
   |none =>
    rw[ho,Option.map_none] at hg;rw[ho,bs,if_neg ax] at hn;have hO:=HZ hM ho;rw[←aW hx] at hO;obtain⟨xn,xo,hxn,hxo⟩:∃a b,x.new=a∧x.old=b:=⟨_,_,rfl,rfl⟩
    rw[hxn,hxo] at hn;by_cases h1:xn=xo<;>by_cases h2:K2≤pg;all_goals
     (first|rw[if_pos h2] at hF|rw[if_neg h2] at hF)
     (first|rw[if_neg (by simpa using h1)] at hn|rw[if_pos h1] at hn)
     repeat' first|(refine aJ mixed dK (fun _ _=>none) ?_)|(refine wM ?_;(first|(have _:=ah)|(intro ah));intros)|refine wV ?_|(refine wY ?_ ?_<;>intro h)|refine wZ11 @ai @ay @hg @hk @hxn @hxo @aN.{0} @bp.{0} @bs.{0} @bg.{0} @bi.{0} ?_|simp(maxSteps:=4000000) (disch:=first|exact gd|fail) only[go_sem,simprocAttr,ai,ay,hg,hk,hxn,hxo,aN,bp,bs,bg,bi]|fail
     all_goals try(exfalso;omega)
     all_goals
      refine .of (.less ?_ (σ1:=(bx.set g (pk l tl)).set ah (.mp (dW .i64 x.id (.int .i64 xo) es))) (ni sS sS)) ⟨(i+1,dW .i64 x.id (.int .i64 xo) es),rfl,rfl,⟨by simp only;omega,by rw[←hxo];exact hO⟩,by simp only;omega⟩;rw[hK2,hF2];simp(maxSteps:=4000000) (disch:=first|decide|assumption|omega|(simp only[wL];omega)) only[go_sem,simprocAttr,bE,aX];all_goals first|rfl|omega|(constructor<;>omega)|(simp;done)
   |some o =>
    rw[ho,bv] at hg;rw[ho,bp] at hn;have hO:=H2 hM ho;rw[←aW hx] at hO;obtain⟨xn,xo,hxn,hxo⟩:∃a b,x.new=a∧x.old=b:=⟨_,_,rfl,rfl⟩
    rw[hxn,hxo] at hn;by_cases h1:xn=o<;>by_cases h2:K2≤pg<;>by_cases h3:xo=o;all_goals
     (first|rw[if_pos h2] at hF|rw[if_neg h2] at hF)
     simp only[h1,h3,ne_eq,not_true_eq_false,not_false_eq_true,if_true,if_false] at hn;repeat' first|(refine aJ mixed dK (fun _ _=>none) ?_)|(refine wM ?_;(first|(have _:=ah)|(intro ah));intros)|refine wV ?_|(refine wY ?_ ?_<;>intro h)|refine wZ11 @ai @ay @hg @hk @hxn @hxo @aN.{0} @bp.{0} @bs.{0} @bg.{0} @bi.{0} ?_|simp(maxSteps:=4000000) (disch:=first|exact gd|fail) only[go_sem,simprocAttr,ai,ay,hg,hk,hxn,hxo,aN,bp,bs,bg,bi]|fail
     all_goals try(exfalso;omega)
     all_goals
      refine .of (.less ?_ (σ1:=(bx.set g (pk l tl)).set ah (.mp es)) (ni sS sS)) ⟨(i+1,es),rfl,rfl,⟨by simp only;omega,hO⟩,by simp only;omega⟩;rw[hK2,hF2];simp(maxSteps:=4000000) (disch:=first|decide|assumption|omega|(simp only[wL];omega)) only[go_sem,simprocAttr,bE,aX];all_goals first|rfl|omega|(constructor<;>omega)|(simp;done)
  ·obtain rfl:i=A.length:=oM;unfold vE;have iw:=Mk A pg A.length;obtain⟨F,hF⟩:∃F,lP A pg A.length=F:=⟨_,rfl⟩
   rw[hF] at iw ⊢;have hF1:(F:Int)-1+1=(F:Int):=oM;have qy:(A.map TU.c).take F=(A.take F).map TU.c:=List.map_take.symm;have hnt:=fun tt=>Ll (A.take F) (by rw[av];omega) (fun t h=>hAi t (List.mem_of_mem_take h)) tt;by_cases hFe:F=A.length
   ·rw[if_pos hFe];repeat' first|((refine hU (hnt _) ?_;intro z hz;simp only[aM] at hz;obtain⟨z1,z2,-⟩:=hz;have z1':=bf z1;have z2':=bf z2))|(refine wM ?_;(first|(have _:=ah)|(intro ah));intros)|refine wV ?_|(refine wY ?_ ?_<;>intro h)|refine jf @ai @hmA @hF1 @qy ?_|exact ZY @ai @hmA @hF1 @qy|fail
    all_goals try(exfalso;omega)
    all_goals exact⟨_,rfl,.inr ⟨z,by simp only[aM];exact⟨bc,rfl⟩,rfl,b0 (b0 bt sS) cj⟩⟩
   ·rw[if_neg hFe];obtain⟨y,hy⟩:=bX A (by omega:F<A.length);have ay:=bJ (f:=TU.c) hy;obtain⟨y1,y2⟩:=hAq y (List.mem_of_getElem? hy);have hyD:A.getD F tuZ=y:=by rw[List.getD_eq_getElem?_getD,hy];rfl
    rw[hyD];repeat' first|((refine hU (hnt _) ?_;intro z hz;simp only[aM] at hz;obtain⟨z1,z2,-⟩:=hz;have z1':=bf z1;have z2':=bf z2))|(refine wM ?_;(first|(have _:=ah)|(intro ah));intros)|refine wV ?_|(refine wY ?_ ?_<;>intro h)|refine wZ5 @ai @hmA @hF1 @qy @ay ?_|exact wC5 @ai @hmA @hF1 @qy @ay|fail
    all_goals try(exfalso;omega)
    all_goals exact⟨_,rfl,.inr ⟨z,by simp only[aM];exact⟨bc,rfl⟩,rfl,b0 (b0 bt sS) cj⟩⟩
def tI{g v:Nat}(hvg:v≠g)(f sm:Nat)(mk:UInt32){z:VS}(hz:LInv z)(hnw:z.now≤1099511627776)(ex:List (List MV))(from_ cur aq:Int) :
  aA Tryz.prog 21 [.ptr v 0 0,.int .i64 from_,.int .i64 cur,.int .i64 aq] ((bx.set g (pk z.log ex)).set v (mh f mk sm z.floor z.now (.vec 31 g 0 z.log.length))) (fun r af=>if from_<z.floor∨z.now<from_ then r=.ar [.aK,.int .i64 0,.bool false]∧af=((bx.set g (pk z.log ex)).set v (mh f mk sm z.floor z.now (.vec 31 g 0 z.log.length))) else ∃w,r=.ar [w,.int .i64 (eS z.log from_ z.now cur aq).2,.bool true]∧ItV ((bx.set g (pk z.log ex)).set v (mh f mk sm z.floor z.now (.vec 31 g 0 z.log.length))) (eS z.log from_ z.now cur aq).1 w af):=by
 have ZB:=bf hvg;have hlen:=hz.len;have hct:=Ij g z.log oM ex from_ z.now cur aq hz.idb (fun t ht=>by have:=hz.sqb t ht;have:=hz.now t ht;omega) (Wi z.log hz.up hz.now hz.ch);by_cases h1:from_<z.floor
 ·simp only[if_pos (show from_<z.floor∨z.now<from_ from .inl h1)];refine b6 (Q':=fun r af=>r=.ar [.aK,.int .i64 0,.bool false]∧((bx.set g (pk z.log ex)).set v (mh f mk sm z.floor z.now (.vec 31 g 0 z.log.length))).le af) (mB 48 [.tmp 8,.tmp 9,.tmp 10] Tryz.func21 ?_) fun r af h=>⟨_,h.2,h.1,rfl⟩
  repeat' first|(refine wO ?_;intros)|(refine wY ?_ ?_<;>intro h)|refine bu @Tryz.f21.eq_1 @ai ?_|exact fk @Tryz.f21.eq_1 @ai|fail
  all_goals first|exact⟨rfl,ba⟩|exact ba|(exfalso;omega)
 ·by_cases h2:z.now<from_
  ·simp only[if_pos (show from_<z.floor∨z.now<from_ from .inr h2)];refine b6 (Q':=fun r af=>r=.ar [.aK,.int .i64 0,.bool false]∧((bx.set g (pk z.log ex)).set v (mh f mk sm z.floor z.now (.vec 31 g 0 z.log.length))).le af) (mB 48 [.tmp 8,.tmp 9,.tmp 10] Tryz.func21 ?_) fun r af h=>⟨_,h.2,h.1,rfl⟩
   repeat' first|(refine wO ?_;intros)|(refine wY ?_ ?_<;>intro h)|refine bu @Tryz.f21.eq_1 @ai ?_|exact fk @Tryz.f21.eq_1 @ai|fail
   all_goals first|exact⟨rfl,ba⟩|exact ba|(exfalso;omega)
  ·simp only[if_neg (show ¬(from_<z.floor∨z.now<from_) by omega)];refine b6 (Q':=fun r af=>∃w,r=.ar [w,.int .i64 (eS z.log from_ z.now cur aq).2,.bool true]∧ItL ((bx.set g (pk z.log ex)).set v (mh f mk sm z.floor z.now (.vec 31 g 0 z.log.length))) (eS z.log from_ z.now cur aq).1 w af) (mB 48 [.tmp 8,.tmp 9,.tmp 10] Tryz.func21 ?_) fun r af ⟨w,h1,h2⟩=>(EB h2).imp fun τ h=>⟨h.1,w,h1,h.2⟩
   obtain⟨⟨X,wg⟩,hX⟩:∃X,eS z.log from_ z.now cur aq=X:=⟨_,rfl⟩
   rw[hX] at hct ⊢;simp only at hct ⊢;repeat' first|(refine wO ?_;intros)|(refine wY ?_ ?_<;>intro h)|refine bu @Tryz.f21.eq_1 @ai ?_|exact fk @Tryz.f21.eq_1 @ai|fail
   all_goals try(exfalso;omega)
   refine bZ mixed (fun _ _=>none) [_,_,_,_,_,_,_,_,_,_,_] [_,_,_,_,_] rfl dK ?_;repeat' first|(refine wO ?_;intros)|(refine wY ?_ ?_<;>intro h)|refine aw @ai ?_|exact ev @ai|fail
   refine Gc (u:=fun w=>.ar [w,.int .i64 wg]) hct (b0 bt sS) (fun h0=>?_) fun z hz=>?_
   ·repeat' first|(refine wO ?_;intros)|(refine wY ?_ ?_<;>intro h)|refine aw @ai ?_|exact ev @ai|fail
    all_goals exact⟨_,rfl,.inl ⟨h0,rfl,ni sS sS⟩⟩
   ·simp only[aM] at hz;obtain⟨z1,z2,-⟩:=hz;have z1':=bf z1;have z2':=bf z2;repeat' first|(refine wO ?_;intros)|(refine wY ?_ ?_<;>intro h)|refine aw @ai ?_|exact ev @ai|fail
    all_goals exact⟨_,rfl,.inr ⟨z,by simp only[aM];exact⟨bc,bc,rfl⟩,rfl,b0 (ni sS sS) sS⟩⟩
def ij{σ:St}{a b:Nat}{x y:aY}(h1:σ a=some x)(h2:σ b=some y)(h:x≠y):a≠b:=fun e=>by subst e;rw[h1] at h2;exact h (Option.some.inj h2)
def bG{t t':TypeId}{e e':Nat}{xs xs':List (List MV)}(h:t≠t'):aY.row t e xs≠aY.row t' e' xs':=fun q=>by injection q with q _ _;exact h q
def He{σ:St}{n z:Nat}{o x:aY}(h:σ z=none):(σ.set n o).le ((σ.set z x).set n o):=fun j o' hj=>by
 by_cases q:j=n
 ·subst q;rw[aD] at hj ⊢;exact hj
 ·rw[cn q] at hj ⊢;by_cases q2:j=z
  ·subst q2;rw[h] at hj;cases hj
  ·rw[cn q2];exact hj
def H7{σ:St}{nv nt np ne nP f sm g v:Nat}(t:TO)(aq ep:Int)(mk:UInt32){z:VS}(hz:LInv z)(hnw:z.now≤1099511627776)(ex:List (List MV))
 (c1:σ nv=some (.row 44 1 [[.ptr v 0 0]]))(c2:σ nt=some (.row 103 4 [t.c]))(c3:σ np=some (.row 3 1 [[.int .i64 aq]]))(c4:σ ne=some (.row 3 1 [[.int .i64 ep]]))(c5:σ nP=some (xq ⟨0,false,t,ui,[]⟩ .aK))
 (c6:σ v=some (mh f mk sm z.floor z.now (.vec 31 g 0 z.log.length)))(c7:σ g=some (pk z.log ex))(h:t.sq<z.floor∨z.now<t.sq∨t.ep≠ep) :
  aA Tryz.prog 120 [.ptr nv 0 0,.ptr nt 0 0,.ptr np 0 0,.ptr ne 0 0,.ptr nP 0 0] σ (fun r af=>r=.bool true∧af=σ.set nP (xq ⟨0,true,t,⟨t.dev,ep,z.now,0⟩,[]⟩ .aK)):=by
 refine b6 (Q':=fun r af=>r=.bool true∧(σ.set nP (xq ⟨0,true,t,⟨t.dev,ep,z.now,0⟩,[]⟩ .aK)).le af) (mB 43 [.tmp 5] Tryz.func120 ?_) fun r af h=>⟨_,h.2,h.1,rfl⟩
 have e1:nv≠nP:=ij c1 c5 (bG br);have e2:nt≠nP:=ij c2 c5 (bG br);have e3:np≠nP:=ij c3 c5 (bG br);have e4:ne≠nP:=ij c4 c5 (bG br);have e5:v≠nP:=ij c6 c5 (bG br);have e6:v≠g:=ij c6 c7 (bG br);have hd:=tI e6 f sm mk hz hnw ex t.sq t.cu aq;have hn:=uF v f sm mk z.floor z.now (.vec 31 g 0 z.log.length);have hf:=Fv t.dev ep z.now;obtain⟨C,k1,k2⟩:=yn 30 ⟨[v],fun w=>w=.int .i64 z.now,none⟩ 121 ⟨[],fun w=>w=.agg (TO.c ⟨t.dev,ep,z.now,0⟩),none⟩;by_cases hc:t.sq<z.floor∨z.now<t.sq
 ·simp only[if_pos hc] at hd;repeat' first|(refine dB hd (ni c7 c6) ?_)|(refine aJ mixed dK C ?_)|(refine eR [v] [mh f mk sm z.floor z.now (.vec 31 g 0 z.log.length)] (k1 _) sS hn ?_)|(with_reducible refine aF (k2 _) hf ?_)|(refine wO ?_;intros)|(refine wY ?_ ?_<;>intro h)|refine vu @Tryz.f120.eq_1 @ai @c1 @c2 @c3 @c4 @c5 @c6 ?_|exact xu @Tryz.f120.eq_1 @ai @c1 @c2 @c3 @c4 @c5 @c6|fail
  all_goals try(exfalso;omega)
  all_goals first|exact ba|exact⟨rfl,ba⟩
 ·simp only[if_neg hc] at hd;have hep:t.ep≠ep:=oM;repeat' first|(refine wO ?_;intros)|(refine wY ?_ ?_<;>intro h)|refine vu @Tryz.f120.eq_1 @ai @c1 @c2 @c3 @c4 @c5 @c6 ?_|exact xu @Tryz.f120.eq_1 @ai @c1 @c2 @c3 @c4 @c5 @c6|fail
  refine Gc (u:=fun w=>.ar [w,.int .i64 (eS z.log t.sq z.now t.cu aq).2,.bool true]) hd (ni c7 c6) (fun h0=>?_) fun zz mf=>?_
  ·repeat' first|(refine aJ mixed dK C ?_)|(refine eR [v] [mh f mk sm z.floor z.now (.vec 31 g 0 z.log.length)] (k1 _) sS hn ?_)|(with_reducible refine aF (k2 _) hf ?_)|(refine wO ?_;intros)|(refine wY ?_ ?_<;>intro h)|refine wh @ai @c1 @c2 @c3 @c4 @c5 @c6 ?_|exact yz @ai @c1 @c2 @c3 @c4 @c5 @c6|fail
   all_goals try(exfalso;omega)
   all_goals first|exact ba|exact⟨rfl,ba⟩
  ·have z1:zz≠nv:=fun e=>by rw[e,c1] at mf;cases mf
   have z2:zz≠nt:=fun e=>by rw[e,c2] at mf;cases mf
   have z3:zz≠np:=fun e=>by rw[e,c3] at mf;cases mf
   have z4:zz≠ne:=fun e=>by rw[e,c4] at mf;cases mf
   have z5:zz≠nP:=fun e=>by rw[e,c5] at mf;cases mf
   have z6:zz≠v:=fun e=>by rw[e,c6] at mf;cases mf
   have y1:=bf z1;have y2:=bf z2;have y3:=bf z3;have y4:=bf z4;have y5:=bf z5;have y6:=bf z6;repeat' first|(refine aJ mixed dK C ?_)|(refine eR [v] [mh f mk sm z.floor z.now (.vec 31 g 0 z.log.length)] (k1 _) sS hn ?_)|(with_reducible refine aF (k2 _) hf ?_)|(refine wO ?_;intros)|(refine wY ?_ ?_<;>intro h)|refine wh @ai @c1 @c2 @c3 @c4 @c5 @c6 ?_|exact yz @ai @c1 @c2 @c3 @c4 @c5 @c6|fail
   all_goals try(exfalso;omega)
   all_goals first|exact He mf|exact⟨rfl,He mf⟩
def H6{σ:St}{nv nt np ne nP f sm g v:Nat}(t:TO)(aq ep:Int)(mk:UInt32){z:VS}(hz:LInv z)(hnw:z.now≤1099511627776)(ex:List (List MV))
 (c1:σ nv=some (.row 44 1 [[.ptr v 0 0]]))(c2:σ nt=some (.row 103 4 [t.c]))(c3:σ np=some (.row 3 1 [[.int .i64 aq]]))(c4:σ ne=some (.row 3 1 [[.int .i64 t.ep]]))(c5:σ nP=some (xq ⟨0,false,t,ui,[]⟩ .aK))
 (c6:σ v=some (mh f mk sm z.floor z.now (.vec 31 g 0 z.log.length)))(c7:σ g=some (pk z.log ex))(h1:z.floor≤t.sq)(h2:t.sq≤z.now) :
  aA Tryz.prog 120 [.ptr nv 0 0,.ptr nt 0 0,.ptr np 0 0,.ptr ne 0 0,.ptr nP 0 0] σ (fun r af=>r=.bool false∧(((eS z.log t.sq z.now t.cu aq).1=[]∧af=σ.set nP (xq ⟨0,false,t,⟨t.dev,t.ep,(eS z.log t.sq z.now t.cu aq).2,t.cu⟩,[]⟩ .aK)) ∨
   ∃q,σ q=none∧af=(σ.set q (.row 164 28 ((eS z.log t.sq z.now t.cu aq).1.map ab))).set nP (xq ⟨0,false,t,⟨t.dev,t.ep,(eS z.log t.sq z.now t.cu aq).2,t.cu⟩,[]⟩ (.vec 28 q 0 (eS z.log t.sq z.now t.cu aq).1.length)))):=by
 refine b6 (Q':=fun r af=>r=.bool false∧(((eS z.log t.sq z.now t.cu aq).1=[]∧(σ.set nP (xq ⟨0,false,t,⟨t.dev,t.ep,(eS z.log t.sq z.now t.cu aq).2,t.cu⟩,[]⟩ .aK)).le af) ∨
   ∃q,σ q=none∧((σ.set q (.row 164 28 ((eS z.log t.sq z.now t.cu aq).1.map ab))).set nP (xq ⟨0,false,t,⟨t.dev,t.ep,(eS z.log t.sq z.now t.cu aq).2,t.cu⟩,[]⟩ (.vec 28 q 0 (eS z.log t.sq z.now t.cu aq).1.length))).le af)) (mB 43 [.tmp 5] Tryz.func120 ?_) (fun r af h=>by
    obtain⟨e,h⟩:=h;rcases h with⟨e0,h⟩|⟨q,hq,h⟩
    ·exact⟨_,h,e,.inl ⟨e0,rfl⟩⟩
    ·exact⟨_,h,e,.inr ⟨q,hq,rfl⟩⟩)
 have e1:nv≠nP:=ij c1 c5 (bG br);have e2:nt≠nP:=ij c2 c5 (bG br);have e3:np≠nP:=ij c3 c5 (bG br);have e4:ne≠nP:=ij c4 c5 (bG br);have e5:v≠nP:=ij c6 c5 (bG br);have e6:v≠g:=ij c6 c7 (bG br);have hd:=tI e6 f sm mk hz hnw ex t.sq t.cu aq;have hc:¬(t.sq<z.floor∨z.now<t.sq):=oM;simp only[if_neg hc] at hd;obtain⟨⟨X,wg⟩,hX⟩:∃X,eS z.log t.sq z.now t.cu aq=X:=⟨_,rfl⟩
 rw[hX] at hd ⊢;simp only at hd ⊢;repeat' first|(refine wO ?_;intros)|(refine wY ?_ ?_<;>intro h)|refine vu @Tryz.f120.eq_1 @ai @c1 @c2 @c3 @c4 @c5 @c6 ?_|exact xu @Tryz.f120.eq_1 @ai @c1 @c2 @c3 @c4 @c5 @c6|fail
 refine Gc (u:=fun w=>.ar [w,.int .i64 wg,.bool true]) hd (ni c7 c6) (fun h0=>?_) fun zz mf=>?_
 ·repeat' first|(refine wO ?_;intros)|(refine wY ?_ ?_<;>intro h)|refine wh @ai @c1 @c2 @c3 @c4 @c5 @c6 ?_|exact yz @ai @c1 @c2 @c3 @c4 @c5 @c6|fail
  refine Dz mixed [(1,nt),(4,nP)] [1,4] rfl [(38,4),(39,4)] [⟨38,4,109,4,10,62,1⟩,⟨39,4,109,3,6,103,4⟩] dK (fun _ _=>none) ?h1 ?h2 br ?h4 ?h5 ?go;case h1 =>
   intro p hp;simp only[ap,am,or_false] at hp;rcases hp with rfl|rfl
   ·exact⟨0,0,rfl⟩
   ·exact⟨0,0,rfl⟩
  case h2=>simp[e2]
  case h4 =>
   intro p hp;simp only[ap,am,or_false] at hp;rcases hp with rfl|rfl;all_goals exact⟨br,fun l i o h=>absurd h (by simp[FR.get,cV])⟩
  case h5 =>
   intro p hp;simp only[ap,am,or_false] at hp;rcases hp with rfl|rfl
   ·exact⟨congrArg TD.size Xb,l5 (congrArg TD.k Jg) rfl,fun l i o h=>absurd h (by simp[FR.get,cV])⟩
   ·exact⟨congrArg TD.size BW,l5 (congrArg TD.k Jg) rfl,fun l i o h=>absurd h (by simp[FR.get,cV])⟩
  case go =>
   repeat' first|(refine wO ?_;intros)|(refine wY ?_ ?_<;>intro h)|refine wh @ai @c1 @c2 @c3 @c4 @c5 @c6 ?_|exact yz @ai @c1 @c2 @c3 @c4 @c5 @c6|fail
   all_goals first|exact⟨rfl,.inl ⟨h0,fun j o hj=>by by_cases q:j=nP<;>simp_all [bz]⟩⟩|exact .inl ⟨h0,fun j o hj=>by by_cases q:j=nP<;>simp_all [bz]⟩
 ·have z1:zz≠nv:=fun e=>by rw[e,c1] at mf;cases mf
  have z2:zz≠nt:=fun e=>by rw[e,c2] at mf;cases mf
  have z3:zz≠np:=fun e=>by rw[e,c3] at mf;cases mf
  have z4:zz≠ne:=fun e=>by rw[e,c4] at mf;cases mf
  have z5:zz≠nP:=fun e=>by rw[e,c5] at mf;cases mf
  have z6:zz≠v:=fun e=>by rw[e,c6] at mf;cases mf
  have y1:=bf z1;have y2:=bf z2;have y3:=bf z3;have y4:=bf z4;have y5:=bf z5;have y6:=bf z6;repeat' first|(refine wO ?_;intros)|(refine wY ?_ ?_<;>intro h)|refine wh @ai @c1 @c2 @c3 @c4 @c5 @c6 ?_|exact yz @ai @c1 @c2 @c3 @c4 @c5 @c6|fail
  refine Dz mixed [(1,nt),(4,nP)] [1,4] rfl [(38,4),(39,4)] [⟨38,4,109,4,10,62,1⟩,⟨39,4,109,3,6,103,4⟩] dK (fun _ _=>none) ?h1 ?h2 br ?h4 ?h5 ?go;case h1 =>
   intro p hp;simp only[ap,am,or_false] at hp;rcases hp with rfl|rfl
   ·exact⟨0,0,rfl⟩
   ·exact⟨0,0,rfl⟩
  case h2=>simp[e2]
  case h4 =>
   intro p hp;simp only[ap,am,or_false] at hp;rcases hp with rfl|rfl;all_goals exact⟨br,fun l i o h=>absurd h (by simp[FR.get,cV])⟩
  case h5 =>
   intro p hp;simp only[ap,am,or_false] at hp;rcases hp with rfl|rfl
   ·exact⟨congrArg TD.size Xb,l5 (congrArg TD.k Jg) rfl,fun l i o h=>absurd h (by simp[FR.get,cV])⟩
   ·exact⟨congrArg TD.size BW,l5 (congrArg TD.k Jg) rfl,fun l i o h=>absurd h (by simp[FR.get,cV])⟩
  case go =>
   repeat' first|(refine wO ?_;intros)|(refine wY ?_ ?_<;>intro h)|refine wh @ai @c1 @c2 @c3 @c4 @c5 @c6 ?_|exact yz @ai @c1 @c2 @c3 @c4 @c5 @c6|fail
   all_goals first|exact⟨rfl,.inr ⟨zz,mf,fun j o hj=>by by_cases q:j=nP<;>simp_all [bz]⟩⟩|exact .inr ⟨zz,mf,fun j o hj=>by by_cases q:j=nP<;>simp_all [bz]⟩
def TS{t:TO}(h:lM t=true):0≤t.cu∧t.cu≤1073741824:=by unfold lM jT at h;simp only[decide_eq_true_eq] at h;omega
def H9{σ:St}{np nP nv nt nb f sm b v:Nat}{t:TO}(cm:lM t=true){aq:Int}(hp1:1≤aq)(hp2:aq≤16)(mk:UInt32)(floor now wg:Int)(log:MV)(X:List IT)(hX:X.length≤1000){w:MV}(hw:(X=[]∧w=.aK)∨∃r,w=.vec 28 r 0 X.length)
 (c1:σ np=some (.row 3 1 [[.int .i64 aq]]))(c2:σ nP=some (xq ⟨0,false,t,⟨t.dev,t.ep,wg,t.cu⟩,[]⟩ w))(c3:σ nv=some (.row 44 1 [[.ptr v 0 0]]))(c4:σ nt=some (.row 103 4 [t.c]))(c5:σ nb=some (.row 34 1 [[.ptr b 0 0]]))
 (c6:σ v=some (mh f mk sm floor now log))(h:¬(wg=now∧t.cu<1073741824∧(X.length:Int)<aq)) :
  aA Tryz.prog 122 [.ptr np 0 0,.ptr nP 0 0,.ptr nv 0 0,.ptr nt 0 0,.ptr nb 0 0] σ (fun r af=>r=.bool true∧af=σ):=by
 refine b6 (Q':=fun r af=>r=.bool true∧σ.le af) (mB 49 [.tmp 5] Tryz.func122 ?_) fun r af h=>⟨_,h.2,h.1,rfl⟩
 have hn:=uF v f sm mk floor now log;have hwh:=wQ t cm;have htc:=TS cm;obtain⟨C,k1,k2⟩:=yn 30 ⟨[v],fun w=>w=.int .i64 now,none⟩ 123 ⟨[],fun w=>w=.bool (decide (t.cu=1073741824)),none⟩;rcases hw with⟨rfl,rfl⟩|⟨r,rfl⟩
 ·simp only[a6] at h;repeat' first|(refine aJ mixed dK C ?_)|(refine eR [v] [mh f mk sm floor now log] (k1 _) sS hn ?_)|(with_reducible refine aF (k2 _) hwh ?_)|(refine wO ?_;intros)|(refine wY ?_ ?_<;>intro h)|refine vu @Tryz.f122.eq_1 @ai @c1 @c2 @c3 @c4 @c5 @c6 ?_|exact xu @Tryz.f122.eq_1 @ai @c1 @c2 @c3 @c4 @c5 @c6|fail
  all_goals try(exfalso;omega)
  all_goals first|exact⟨rfl,ba⟩|exact ba
 ·repeat' first|(refine aJ mixed dK C ?_)|(refine eR [v] [mh f mk sm floor now log] (k1 _) sS hn ?_)|(with_reducible refine aF (k2 _) hwh ?_)|(refine wO ?_;intros)|(refine wY ?_ ?_<;>intro h)|refine vu @Tryz.f122.eq_1 @ai @c1 @c2 @c3 @c4 @c5 @c6 ?_|exact xu @Tryz.f122.eq_1 @ai @c1 @c2 @c3 @c4 @c5 @c6|fail
  all_goals try(exfalso;omega)
  all_goals first|exact⟨rfl,ba⟩|exact ba
def Qi(σ:St)(nP f:Nat)(fl:List ND)(p:PG)(w:MV)(n:Nat)(r:MV)(af:St):Prop :=
 r=.bool true∧∃z d',σ z=none∧af nP=some (xq p (.vec 28 z 0 p.items.length))∧af z=some (.row 164 28 (p.items.map ab))∧af f=some (jm fl d')∧∀j o,σ j=some o→j≠nP→j≠f→(∀r,w=.vec 28 r 0 n→j≠r)→af j=some o
def H8{σ:St}{np nP nv nt nb m l q b f sm v:Nat}{B:BK}(hb:dx B)(D:eB m l q b)(hf:f≠m∧f≠l∧f≠q∧f≠b){fl:List ND}(iz:bR fl=0)(d:Bool){t:TO}(cm:lM t=true){aq:Int}(hp1:1≤aq)(hp2:aq≤16)(mk:UInt32)(floor now:Int)(log:MV)(X:List IT){w:MV}(hw:(X=[]∧w=.aK)∨∃r,w=.vec 28 r 0 X.length∧σ r=some (.row 164 28 (X.map ab)))
 (hle:(ln m l q b B f fl d).le σ)
 (c1:σ np=some (.row 3 1 [[.int .i64 aq]]))(c2:σ nP=some (xq ⟨0,false,t,⟨t.dev,t.ep,now,t.cu⟩,[]⟩ w))(c3:σ nv=some (.row 44 1 [[.ptr v 0 0]]))(c4:σ nt=some (.row 103 4 [t.c]))(c5:σ nb=some (.row 34 1 [[.ptr b 0 0]]))
 (c6:σ v=some (mh f mk sm floor now log))(h1:t.cu<1073741824)(h2:(X.length:Int)<aq) :
  aA Tryz.prog 122 [.ptr np 0 0,.ptr nP 0 0,.ptr nv 0 0,.ptr nt 0 0,.ptr nb 0 0] σ
   (Qi σ nP f fl ⟨0,false,t,⟨t.dev,t.ep,now,(eU (bY B fl mk 1073741824) t.cu (aq-(X.length:Int))).2⟩,X++jw (eU (bY B fl mk 1073741824) t.cu (aq-(X.length:Int))).1⟩ w X.length):=by
 refine aA.gh (mB 49 [.tmp 5] Tryz.func122 ?_);have hn:=uF v f sm mk floor now log;have ha:=IB v f sm mk floor now log;have hm:=IC v f sm mk floor now log;have hwh:=wQ t cm;have htc:=TS cm;have yv:=Il hb.toBkR (by have:=hb.ng;omega) (fun g hg=>by have:=hb.nm g hg;omega) D hf iz (by have:=hb.nd;omega) d mk t.cu (aq-(X.length:Int));have hWl:(bY B fl mk 1073741824).length≤48:=by unfold bY;rw[ag];exact Nat.le_trans (List.length_filter_le _ _) hb.nc
 have iw:=AO (W:=bY B fl mk 1073741824) t.cu (aq-(X.length:Int));obtain⟨⟨Y,at_⟩,hY⟩:∃Y,eU (bY B fl mk 1073741824) t.cu (aq-(X.length:Int))=Y:=⟨_,rfl⟩
 rw[hY] at yv iw ⊢;simp only at yv iw ⊢;have mz:=qY Y;have zd:(X++jw Y).map ab=X.map ab++IT.ks (jw Y):=a0;have uq:(X++jw Y).length=X.length+Y.length:=by rw[an];congr 1;exact ag _
 have cf:σ f=some (jm fl d):=hle f _ cj;obtain⟨dn,wv⟩:∃dn,(d || decide (1≤aq-(X.length:Int))&&decide (0<B.ae.length))=dn:=⟨_,rfl⟩
 rw[wv] at yv;have e1:np≠f:=ij c1 cf (bG br);have e2:nP≠f:=ij c2 cf (bG br);have e3:nv≠f:=ij c3 cf (bG br);have e4:nt≠f:=ij c4 cf (bG br);have e5:nb≠f:=ij c5 cf (bG br);have e6:v≠f:=ij c6 cf (bG br);have e7:v≠nP:=ij c6 c2 (bG br);have e8:nt≠nP:=ij c4 c2 (bG br);have e9:=bf e2;obtain⟨C,k1,k2⟩:=yn 30 ⟨[v],fun w=>w=.int .i64 now,none⟩ 123 ⟨[],fun w=>w=.bool (decide (t.cu=1073741824)),none⟩;obtain⟨C2,k3,k4⟩:=yn 31 ⟨[v],fun w=>w=.ptr f 0 0,none⟩ 32 ⟨[v],fun w=>w=.int .u32 (mk.toNat:Int),none⟩;rcases hw with⟨rfl,rfl⟩|⟨r,rfl,cr⟩
 ·rw[show((([]:List IT).length:Nat):Int)=0 from rfl] at yv;rw[List.nil_append] at zd uq ⊢;have qu:(jw Y).length=Y.length:=by rw[uq];exact Nat.zero_add _
  obtain⟨p,hp,hpi,hpk⟩:∃p:PG,(⟨0,false,t,⟨t.dev,t.ep,now,at_⟩,jw Y⟩:PG)=p∧p.items=jw Y∧∀w,p.k w=[.int .i64 0,.bool false,.int .i64 t.dev,.int .i64 t.ep,.int .i64 t.sq,.int .i64 t.cu,.int .i64 t.dev,.int .i64 t.ep,.int .i64 now,.int .i64 at_,w]:=⟨_,rfl,rfl,fun _=>rfl⟩
  rw[hp];have eu:∀{z:Nat} {af:St},σ z=none→af nP=some (xq p (.vec 28 z 0 Y.length))→af z=some (.row 164 28 (IT.ks (jw Y)))→af f=some (jm fl dn)→(∀j o,σ j=some o→j≠nP→j≠f→af j=some o)→Qi σ nP f fl p .aK 0 (.bool true) af:=fun h1 h2 h3 h4 h5 =>
   ⟨rfl,_,_,h1,by rw[hpi,qu];exact h2,by rw[hpi];exact h3,h4,fun j o a b c _=>h5 j o a b c⟩
  obtain⟨AN,hAN⟩:∃AN,Qi σ nP f fl p .aK 0=AN:=⟨_,rfl⟩
  obtain⟨I,hI⟩:∃I,IT.ks (jw Y)=I:=⟨_,rfl⟩
  simp only[hI,hAN,xq,hpk] at yv mz eu;clear zd uq hpi qu;repeat' first|(refine wM ?_;(first|(have _:=ah)|(intro ah));intros)|refine wV ?_|(refine wY ?_ ?_<;>intro h)|refine vu @Tryz.f122.eq_1 @ai @c1 @c2 @c3 @c4 @c5 @c6 ?_|exact xu @Tryz.f122.eq_1 @ai @c1 @c2 @c3 @c4 @c5 @c6|fail
  refine aJ mixed dK C ?_;repeat' first|(refine eR [v] [mh f mk sm floor now log] (k1 _) sS hn ?_)|(with_reducible refine aF (k2 _) hwh ?_)|(refine wM ?_;(first|(have _:=ah)|(intro ah));intros)|refine wV ?_|(refine wY ?_ ?_<;>intro h)|refine wh @ai @c1 @c2 @c3 @c4 @c5 @c6 ?_|exact yz @ai @c1 @c2 @c3 @c4 @c5 @c6|fail
  all_goals try(exfalso;omega)
  refine bZ mixed C2 [_,_,_,_,_,_,_,_] [_,_,_,_,_] rfl dK ?_;repeat' first|(refine eR [v] [mh f mk sm floor now log] (k3 _) sS ha ?_)|(refine eR [v] [mh f mk sm floor now log] (k4 _) sS hm ?_)|(refine Gb yv hle ?_)|(refine wM ?_;(first|(have _:=ah)|(intro ah));intros)|refine wV ?_|(refine wY ?_ ?_<;>intro h)|refine vu @ai @c1 @c2 @c3 @c4 @c5 @c6 @mz ?_|exact xu @ai @c1 @c2 @c3 @c4 @c5 @c6 @mz|fail
  all_goals try(exfalso;omega)
  have tc:σ ah=none:=bc;have a1:nP≠ah:=fun e=>by rw[e,tc] at c2;cases c2
  have a2:=bf a1;have a3:f≠ah:=fun e=>by rw[e,tc] at cf;cases cf
  repeat' first|(refine wM ?_;(first|(have _:=ah)|(intro ah));intros)|refine wV ?_|(refine wY ?_ ?_<;>intro h)|refine vu @ai @c1 @c2 @c3 @c4 @c5 @c6 @mz ?_|exact xu @ai @c1 @c2 @c3 @c4 @c5 @c6 @mz|fail
  refine .of (aR.refl _ _) ⟨_,rfl,?_⟩;rw[hAN];exact eu tc cj ((cn a2).trans cj) ((cn e9).trans ((cn a3).trans cj)) (fun j o hj h1 h2=>by
   have h3:j≠ah:=fun e=>by rw[e,tc] at hj;cases hj
   rw[cn h1,cn h3,cn h2];exact hj)
 ·have qu:(X++jw Y).length=X.length+Y.length:=uq;have tn:(X.map ab).length=X.length:=ag _;obtain⟨p,hp,hpi,hpk⟩:∃p:PG,(⟨0,false,t,⟨t.dev,t.ep,now,at_⟩,X++jw Y⟩:PG)=p∧p.items=X++jw Y∧∀w,p.k w=[.int .i64 0,.bool false,.int .i64 t.dev,.int .i64 t.ep,.int .i64 t.sq,.int .i64 t.cu,.int .i64 t.dev,.int .i64 t.ep,.int .i64 now,.int .i64 at_,w]:=⟨_,rfl,rfl,fun _=>rfl⟩
  rw[hp];have eu:∀{z:Nat} {af:St},σ z=none→af nP=some (xq p (.vec 28 z 0 (X.length+Y.length)))→af z=some (.row 164 28 (X.map ab++IT.ks (jw Y)))→af f=some (jm fl dn)→(∀j o,σ j=some o→j≠nP→j≠f→j≠r→af j=some o)→Qi σ nP f fl p (.vec 28 r 0 X.length) X.length (.bool true) af:=fun h1 h2 h3 h4 h5 =>
   ⟨rfl,_,_,h1,by rw[hpi,qu];exact h2,by rw[hpi,zd];exact h3,h4,fun j o a b c q=>h5 j o a b c (q r rfl)⟩
  have e10:r≠nP:=ij cr c2 (bG br);have e11:r≠f:=ij cr cf (bG br);have e12:=bf e10;have e13:=bf e11;have e14:nt≠r:=ij c4 cr (bG br);obtain⟨AN,hAN⟩:∃AN,Qi σ nP f fl p (.vec 28 r 0 X.length) X.length=AN:=⟨_,rfl⟩
  obtain⟨I,hI⟩:∃I,IT.ks (jw Y)=I:=⟨_,rfl⟩
  obtain⟨L,hL⟩:∃L,X.map ab=L:=⟨_,rfl⟩
  simp only[hI,hAN,hL,xq,hpk] at yv mz eu tn cr;have fi:L.take X.length=L:=by rw[←tn];exact au
  have gv:∀n,L.drop (X.length+n)=[]:=fun n=>List.drop_eq_nil_of_le oM;clear zd uq hpi qu;repeat' first|(refine wM ?_;(first|(have _:=ah)|(intro ah));intros)|refine wV ?_|(refine wY ?_ ?_<;>intro h)|refine vu @Tryz.f122.eq_1 @ai @c1 @c2 @c3 @c4 @c5 @c6 ?_|exact xu @Tryz.f122.eq_1 @ai @c1 @c2 @c3 @c4 @c5 @c6|fail
  refine aJ mixed dK C ?_;repeat' first|(refine eR [v] [mh f mk sm floor now log] (k1 _) sS hn ?_)|(with_reducible refine aF (k2 _) hwh ?_)|(refine wM ?_;(first|(have _:=ah)|(intro ah));intros)|refine wV ?_|(refine wY ?_ ?_<;>intro h)|refine wh @ai @c1 @c2 @c3 @c4 @c5 @c6 ?_|exact yz @ai @c1 @c2 @c3 @c4 @c5 @c6|fail
  all_goals try(exfalso;omega)
  refine bZ mixed C2 [_,_,_,_,_,_,_,_] [_,_,_,_,_] rfl dK ?_;repeat' first|(refine eR [v] [mh f mk sm floor now log] (k3 _) sS ha ?_)|(refine eR [v] [mh f mk sm floor now log] (k4 _) sS hm ?_)|(refine Gb yv hle ?_)|(refine wM ?_;(first|(have _:=ah)|(intro ah));intros)|refine wV ?_|(refine wY ?_ ?_<;>intro h)|refine wZ12 @ai @c1 @c2 @c3 @c4 @c5 @c6 @cr @mz @tn @fi @gv ?_|simp(maxSteps:=4000000) (disch:=first|exact gd|fail) only[go_sem,simprocAttr,ai,c1,c2,c3,c4,c5,c6,cr,mz,tn,fi,gv]|fail
  all_goals try(exfalso;omega)
  have tc:σ ah=none:=bc;have a1:nP≠ah:=fun e=>by rw[e,tc] at c2;cases c2
  have a2:=bf a1;have a3:f≠ah:=fun e=>by rw[e,tc] at cf;cases cf
  have a4:nt≠ah:=fun e=>by rw[e,tc] at c4;cases c4
  repeat' first|(refine wM ?_;(first|(have _:=ah)|(intro ah));intros)|refine wV ?_|(refine wY ?_ ?_<;>intro h)|refine vu @ai @c1 @c2 @c3 @c4 @c5 @c6 @mz ?_|exact xu @ai @c1 @c2 @c3 @c4 @c5 @c6 @mz|fail
  refine .of (aR.refl _ _) ⟨_,rfl,?_⟩;rw[hAN];exact eu tc cj ((cn a2).trans cj) ((cn e9).trans ((cn a3).trans cj)) (fun j o hj h1 h2 h4=>by
   have h3:j≠ah:=fun e=>by rw[e,tc] at hj;cases hj
   rw[cn h1,cn h3,cn h2];simp only[b5,if_neg h4];exact hj)
def XG{m l q b f sm g v:Nat}{B:BK}{fl:List ND}{d:Bool}{mk:UInt32}{z:VS}{ex:List (List MV)}(V:mM m l q b f sm g v):(ln m l q b B f fl d).le (fy m l q b B f fl d sm g v mk z ex):=by obtain⟨D,⟨f1,f2,f3,f4⟩,⟨s1,s2,s3,s4,s5⟩,⟨g1,g2,g3,g4,g5,g6⟩,⟨v1,v2,v3,v4,v5,v6,v7⟩⟩:=V;exact cO (cO (cO ba (by simp only[aM];exact⟨s5,s4,s3,s2,s1,rfl⟩)) (by simp only[aM];exact⟨g5,g4,g3,g2,g1,rfl⟩)) (by simp only[aM];exact⟨v5,v4,v3,v2,v1,rfl⟩)
def VL{m l q b f sm g v:Nat}{B:BK}{fl:List ND}{d d':Bool}{mk:UInt32}{z:VS}{ex:List (List MV)}(V:mM m l q b f sm g v):fy m l q b B f fl d' sm g v mk z ex=(fy m l q b B f fl d sm g v mk z ex).set f (jm fl d'):=by
 obtain⟨D,⟨f1,f2,f3,f4⟩,⟨s1,s2,s3,s4,s5⟩,⟨g1,g2,g3,g4,g5,g6⟩,⟨v1,v2,v3,v4,v5,v6,v7⟩⟩:=V;funext j;unfold fy ln;by_cases h:j=f
 ·subst h;rw[aD,cn (bf v5),cn (bf g5),cn (bf s5),aD]
 ·rw[cn h];simp only[bz,if_neg h]
def Yu(m l q b:Nat)(W:BK)(f:Nat)(fl:List ND)(sm g v:Nat)(mk:UInt32)(z:VS)(ex:List (List MV))(p:PG)(r:MV)(af:St):Prop:=∃d w,r=.agg (p.k w)∧ItV (fy m l q b W f fl d sm g v mk z ex) p.items w af
def T7(m l q b:Nat)(W:BK)(f:Nat)(fl:List ND)(sm g v:Nat)(mk:UInt32)(z:VS)(ex:List (List MV))(p:PG)(r:MV)(af:St):Prop:=∃d w,r=.agg (p.k w)∧ItL (fy m l q b W f fl d sm g v mk z ex) p.items w af
structure AnI (ρ:St) (b v:Nat) (ep:Int) (t:TO) (aq:Int) (n1 n2 n3 n4 n5 n6 n7:Nat) (p:PG) (w:MV) (τ:St):Prop where
 hle:ρ.le τ
 c1:τ n1=some (.row 34 1 [[.ptr b 0 0]])
 c2:τ n2=some (.row 44 1 [[.ptr v 0 0]])
 c3:τ n3=some (.row 3 1 [[.int .i64 ep]])
 c4:τ n4=some (.row 103 4 [t.c])
 c5:τ n5=some (.row 3 1 [[.int .i64 aq]])
 c6:τ n6=some (.row 109 11 [[.int .i64 0,.bool false,.int .i64 0,.int .i64 0,.int .i64 0,.int .i64 0,.int .i64 0,.int .i64 0,.int .i64 0,.int .i64 0,.aK]])
 c7:τ n7=some (xq p w)
 hw:(p.items=[]∧w=.aK)∨∃r,w=.vec 28 r 0 p.items.length∧τ r=some (.row 164 28 (p.items.map ab))∧ρ r=none
def E7{W:BK}(hW:dx W){m l q b f sm g v:Nat}(V:mM m l q b f sm g v){fl:List ND}(iz:bR fl=0)(d:Bool)(mk:UInt32){z:VS}(hz:LInv z)(hnw:z.now≤1099511627776)(ex:List (List MV))(ep:Int)(t:TO)(aq:Int) :
  aA Tryz.prog 50 [.ptr b 0 0,.ptr v 0 0,.int .i64 ep,.agg t.c,.int .i64 aq] (fy m l q b W f fl d sm g v mk z ex) (Yu m l q b W f fl sm g v mk z ex (oI (bY W fl mk 1073741824) z ep t aq)):=by
 refine b6 (Q':=T7 m l q b W f fl sm g v mk z ex (oI (bY W fl mk 1073741824) z ep t aq)) (mB 33 [.cell 10 109] Tryz.func50 ?_) fun r af ⟨d',w,h1,h2⟩=>(EB h2).imp fun τ h=>⟨h.1,d',w,h1,h.2⟩
 have Ef:=V.hf;have Eb:=XG (B:=W) (fl:=fl) (d:=d) (mk:=mk) (z:=z) (ex:=ex) V;have Ev:fy m l q b W f fl d sm g v mk z ex v=some (mh f mk sm z.floor z.now (.vec 31 g 0 z.log.length)):=cj;have Eg:fy m l q b W f fl d sm g v mk z ex g=some (pk z.log ex):=(cn (bf V.hv.2.2.2.2.2.2)).trans cj;have Et:=fun d'=>VL (B:=W) (fl:=fl) (d:=d) (d':=d') (mk:=mk) (z:=z) (ex:=ex) V;have El:∀{p:PG} {w:MV} {af:St},ItL (fy m l q b W f fl d sm g v mk z ex) p.items w af→T7 m l q b W f fl sm g v mk z ex p (.agg (p.k w)) af:=fun h=>⟨d,_,rfl,h⟩
 have El':∀{p:PG} {w:MV} {af:St} (d':Bool),ItL ((fy m l q b W f fl d sm g v mk z ex).set f (jm fl d')) p.items w af→T7 m l q b W f fl sm g v mk z ex p (.agg (p.k w)) af:=fun d' h=>⟨d',_,rfl,by rw[Et d'];exact h⟩
 obtain⟨ρ,hρ⟩:∃ρ,fy m l q b W f fl d sm g v mk z ex=ρ:=⟨_,rfl⟩
 obtain⟨AQ,hAQ⟩:∃AQ,T7 m l q b W f fl sm g v mk z ex=AQ:=⟨_,rfl⟩
 rw[hρ] at Eb Ev Eg;simp only[hρ,hAQ] at El El' ⊢;obtain⟨PP,hPP⟩:∃p,oI (bY W fl mk 1073741824) z ep t aq=p:=⟨_,rfl⟩
 rw[hPP];have Ef':ρ f=some (jm fl d):=Eb f _ cj;clear Et hρ hAQ;repeat' first|(refine wM ?_;(first|(have _:=dt)|(have _:=du;intro dt)|(have _:=bj;intro du)|(have _:=az;intro bj)|(have _:=ao;intro az)|(have _:=ak;intro ao)|(have _:=ah;intro ak)|(intro ah));intros)|refine wV ?_|(refine wY ?_ ?_<;>intro h)|refine bu @Tryz.f50.eq_1 @ai ?_|exact fk @Tryz.f50.eq_1 @ai|fail
 have u1:ρ ah=none:=bc;have u2:ρ ak=none:=bc;have u3:ρ ao=none:=bc;have u4:ρ az=none:=bc;have u5:ρ bj=none:=bc;have u6:ρ du=none:=bc;have u7:ρ dt=none:=bc;have n76:dt≠du:=bc;have n67:=bf n76;have n35:ao≠bj:=bc;have fg:∀{k j:Nat} {o:aY},ρ k=none→ρ j=some o→j≠k:=fun hk hj e=>by rw[e,hk] at hj;cases hj
 have I0:AnI ρ b v ep t aq ah ak ao az bj du dt ⟨0,false,t,ui,[]⟩ .aK (((((((ρ.set ah (.row 34 1 [[.ptr b 0 0]])).set ak (.row 44 1 [[.ptr v 0 0]])).set ao (.row 3 1 [[.int .i64 ep]])).set az (.row 103 4 [t.c])).set bj (.row 3 1 [[.int .i64 aq]])).set du (.row 109 11 [[.int .i64 0,.bool false,.int .i64 0,.int .i64 0,.int .i64 0,.int .i64 0,.int .i64 0,.int .i64 0,.int .i64 0,.int .i64 0,.aK]])).set dt (.row 109 11 [[.int .i64 0,.bool false,.int .i64 t.dev,.int .i64 t.ep,.int .i64 t.sq,.int .i64 t.cu,.int .i64 0,.int .i64 0,.int .i64 0,.int .i64 0,.aK]])):=by refine⟨cO (cO (cO (cO (cO (cO (cO ba u1) ?_) ?_) ?_) ?_) ?_) ?_,?_,?_,?_,?_,?_,?_,?_,.inl ⟨rfl,rfl⟩⟩;all_goals first|assumption|(simp[bz, *];done)|(simp[bz,ui, *];done)
 obtain⟨Z0,qz⟩:∃Z0,((((((ρ.set ah (.row 34 1 [[.ptr b 0 0]])).set ak (.row 44 1 [[.ptr v 0 0]])).set ao (.row 3 1 [[.int .i64 ep]])).set az (.row 103 4 [t.c])).set bj (.row 3 1 [[.int .i64 aq]])).set du (.row 109 11 [[.int .i64 0,.bool false,.int .i64 0,.int .i64 0,.int .i64 0,.int .i64 0,.int .i64 0,.int .i64 0,.int .i64 0,.int .i64 0,.aK]])).set dt (.row 109 11 [[.int .i64 0,.bool false,.int .i64 t.dev,.int .i64 t.ep,.int .i64 t.sq,.int .i64 t.cu,.int .i64 0,.int .i64 0,.int .i64 0,.int .i64 0,.aK]])=Z0:=⟨_,rfl⟩
 rw[qz] at I0 ⊢;clear qz;obtain⟨⟨X,wg⟩,hX⟩:∃X,eS z.log t.sq z.now t.cu aq=X:=⟨_,rfl⟩
 refine aG (α:=Nat×St) (fun s=>⟨33,[(26,.int .i64 (s.1:Int)),(25,.agg [.fn (.func 118) [] [.ptr az 0 0,.ptr bj 0 0,.ptr dt 0 0,.ptr ak 0 0],.fn (.func 120) [] [.ptr ak 0 0,.ptr az 0 0,.ptr bj 0 0,.ptr ao 0 0,.ptr dt 0 0],.fn (.func 122) [] [.ptr bj 0 0,.ptr dt 0 0,.ptr ak 0 0,.ptr az 0 0,.ptr ah 0 0]]),(11,.ptr dt 0 0),(10,.ptr du 0 0)],[]⟩)
  (fun s=>s.2) (fun s=>(s.1=0∧AnI ρ b v ep t aq ah ak ao az bj du dt ⟨0,false,t,ui,[]⟩ .aK s.2)∨(s.1=1∧rO t aq=false∧AnI ρ b v ep t aq ah ak ao az bj du dt ⟨0,false,t,ui,[]⟩ .aK s.2) ∨
   (s.1=2∧rO t aq=false∧¬(t.sq<z.floor∨z.now<t.sq∨t.ep≠ep)∧∃w,AnI ρ b v ep t aq ah ak ao az bj du dt ⟨0,false,t,⟨t.dev,t.ep,wg,t.cu⟩,X⟩ w s.2)) (fun s=>2-s.1) ?_ ?_
 ·refine .of (.less ?_ ba) ⟨(0,Z0),rfl,rfl,.inl ⟨rfl,I0⟩⟩;exact wW
 ·rintro⟨i,τ⟩ (⟨hi,hI⟩|⟨hi,hr,hI⟩|⟨hi,hr,Z9,w,hI⟩)
  ·simp only at hi;subst hi;obtain⟨hle,c1,c2,c3,c4,c5,c6,c7,-⟩:=hI;simp only at hle c1 c2 c3 c4 c5 c6 c7 ⊢;have e54:bj≠az:=ij c5 c4 (bG br);have e74:dt≠az:=ij c7 c4 (bG br);have e75:dt≠bj:=ij c7 c5 (bG br);have e24:ak≠az:=ij c2 c4 (bG br);have e25:ak≠bj:=ij c2 c5 (bG br);have e27:ak≠dt:=ij c2 c7 (bG br);have h1:=Bn e54 e74 e75 e24 e25 e27 t aq false v;obtain⟨rc,hrc⟩:∃rc,rO t aq=rc:=⟨_,rfl⟩
   simp only[vc,Bool.false_eq_true,if_false,Bool.or_false,hrc] at h1;repeat' first|(refine wM ?_;(first|(have _:=dt)|(have _:=du;intro dt)|(have _:=bj;intro du)|(have _:=az;intro bj)|(have _:=ao;intro az)|(have _:=ak;intro ao)|(have _:=ah;intro ak)|(intro ah));intros)|refine wV ?_|(refine wY ?_ ?_<;>intro h)|refine vu @ai @c1 @c2 @c3 @c4 @c5 @c6 @c7 ?_|exact xu @ai @c1 @c2 @c3 @c4 @c5 @c6 @c7|fail
   refine gJ (b0 (b0 (b0 (b0 bt c4) c5) c2) c7) h1 ?_;rintro _ za xw ⟨rfl,rfl⟩ ez kj;have f54:=bf e54;have f74:=bf e74;have f75:=bf e75;have f24:=bf e24;have f25:=bf e25;have d4:=ez az (.row 103 4 [t.c]) (by simp[bz,f54,f74,f24]);have d5:=ez bj (.row 3 1 [[.int .i64 aq]]) (by simp[bz,f75,f25]);have d2:=ez ak (.row 44 1 [[.ptr v 0 0]]) (by simp[bz,e27]);have d7:=ez dt _ cj;have d1:=(kj ah _ c1 (by simp only[aM];exact⟨ij c1 c7 (bG br),ij c1 c2 (bG br),ij c1 c5 (bG br),ij c1 c4 (bG br),rfl⟩)).1;have d3:=(kj ao _ c3 (by simp only[aM];exact⟨ij c3 c7 (bG br),ij c3 c2 (bG br),n35,ij c3 c4 (bG br),rfl⟩)).1;have d6:=(kj du _ c6 (by simp only[aM];exact⟨n67,ij c6 c2 (bG br),ij c6 c5 (bG br),ij c6 c4 (bG br),rfl⟩)).1;have si:ρ.le xw:=fun j o hj=>(kj j o (hle j o hj) (by simp only[aM];exact⟨fg u7 hj,fg u2 hj,fg u5 hj,fg u4 hj,rfl⟩)).1;clear kj ez hle c1 c2 c3 c4 c5 c6 c7 h1;cases rc
   ·simp only[Bool.false_eq_true,if_false] at d7;repeat' first|(refine wM ?_;(first|(have _:=dt)|(have _:=du;intro dt)|(have _:=bj;intro du)|(have _:=az;intro bj)|(have _:=ao;intro az)|(have _:=ak;intro ao)|(have _:=ah;intro ak)|(intro ah));intros)|refine wV ?_|(refine wY ?_ ?_<;>intro h)|refine fx @ai @d6 @d7 ?_|exact tk @ai @d6 @d7|fail
    refine .of (.less ?_ ba) ⟨(1,xw),rfl,rfl,.inr (.inl ⟨rfl,hrc,si,d1,d2,d3,d4,d5,d6,d7,.inl ⟨rfl,rfl⟩⟩),ax⟩;exact wW
   ·simp only[if_true] at d7;repeat' first|(refine wM ?_;(first|(have _:=dt)|(have _:=du;intro dt)|(have _:=bj;intro du)|(have _:=az;intro bj)|(have _:=ao;intro az)|(have _:=ak;intro ao)|(have _:=ah;intro ak)|(intro ah));intros)|refine wV ?_|(refine wY ?_ ?_<;>intro h)|refine fx @ai @d6 @d7 ?_|exact tk @ai @d6 @d7|fail
    rw[←hPP,show oI (bY W fl mk 1073741824) z ep t aq=⟨1,false,t,ui,[]⟩ from if_pos hrc];exact El (.inl ⟨rfl,rfl,cO si u6⟩)
  ·simp only at hi;subst hi;obtain⟨hle,c1,c2,c3,c4,c5,c6,c7,-⟩:=hI;simp only at hle c1 c2 c3 c4 c5 c6 c7 ⊢;have kv:=hle v _ Ev;have kg:=hle g _ Eg;by_cases tq:t.sq<z.floor∨z.now<t.sq∨t.ep≠ep
   ·have h2:=H7 t aq ep mk hz hnw ex c2 c4 c5 c3 c7 kv kg tq;repeat' first|(refine wM ?_;(first|(have _:=dt)|(have _:=du;intro dt)|(have _:=bj;intro du)|(have _:=az;intro bj)|(have _:=ao;intro az)|(have _:=ak;intro ao)|(have _:=ah;intro ak)|(intro ah));intros)|refine wV ?_|(refine wY ?_ ?_<;>intro h)|refine vu @ai @c1 @c2 @c3 @c4 @c5 @c6 @c7 ?_|exact xu @ai @c1 @c2 @c3 @c4 @c5 @c6 @c7|fail
    refine gJ ba h2 ?_;rintro _ za xw ⟨rfl,rfl⟩ ez -;have d6:=ez du _ ((cn n67).trans c6);have d7:=ez dt _ cj;have si:ρ.le xw:=fun j o hj=>ez j o ((cn (fg u7 hj)).trans (hle j o hj));clear ez hle c1 c2 c3 c4 c5 c6 c7 h2 kv kg;repeat' first|(refine wM ?_;(first|(have _:=dt)|(have _:=du;intro dt)|(have _:=bj;intro du)|(have _:=az;intro bj)|(have _:=ao;intro az)|(have _:=ak;intro ao)|(have _:=ah;intro ak)|(intro ah));intros)|refine wV ?_|(refine wY ?_ ?_<;>intro h)|refine fx @ai @d6 @d7 ?_|exact tk @ai @d6 @d7|fail
    rw[←hPP,show oI (bY W fl mk 1073741824) z ep t aq=⟨0,true,t,⟨t.dev,ep,z.now,0⟩,[]⟩ by unfold oI;rw[hr,if_neg br,if_pos tq]];exact El (.inl ⟨rfl,rfl,cO si u6⟩)
   ·have hep:ep=t.ep:=oM;have h2:=H6 t aq ep mk hz hnw ex c2 c4 c5 (by rw[c3,hep]) c7 kv kg oM oM;rw[hX] at h2;simp only at h2;repeat' first|(refine wM ?_;(first|(have _:=dt)|(have _:=du;intro dt)|(have _:=bj;intro du)|(have _:=az;intro bj)|(have _:=ao;intro az)|(have _:=ak;intro ao)|(have _:=ah;intro ak)|(intro ah));intros)|refine wV ?_|(refine wY ?_ ?_<;>intro h)|refine vu @ai @c1 @c2 @c3 @c4 @c5 @c6 @c7 ?_|exact xu @ai @c1 @c2 @c3 @c4 @c5 @c6 @c7|fail
    refine gJ ba h2 ?_;rintro _ za xw ⟨rfl,hh⟩ ez -;rcases hh with⟨h0,rfl⟩|⟨zq,hzq,rfl⟩
    ·have dk:∀{j:Nat} {o:aY},τ j=some o→j≠dt→xw j=some o:=fun hj h=>ez _ _ ((cn h).trans hj);have d7:=ez dt _ cj;have I2:AnI ρ b v ep t aq ah ak ao az bj du dt ⟨0,false,t,⟨t.dev,t.ep,wg,t.cu⟩,X⟩ .aK xw:=⟨fun j o hj=>dk (hle j o hj) (fg u7 hj),dk c1 (ij c1 c7 (bG br)),dk c2 (ij c2 c7 (bG br)),dk c3 (ij c3 c7 (bG br)),dk c4 (ij c4 c7 (bG br)),dk c5 (ij c5 c7 (bG br)),dk c6 n67,d7,.inl ⟨h0,rfl⟩⟩
     clear ez hle c1 c2 c3 c4 c5 c6 c7 h2 kv kg d7 dk;repeat' first|(refine wM ?_;(first|(have _:=dt)|(have _:=du;intro dt)|(have _:=bj;intro du)|(have _:=az;intro bj)|(have _:=ao;intro az)|(have _:=ak;intro ao)|(have _:=ah;intro ak)|(intro ah));intros)|refine wV ?_|(refine wY ?_ ?_<;>intro h)|refine aw @ai ?_|exact ev @ai|fail
     refine .of (.less ?_ ba) ⟨(2,xw),rfl,rfl,.inr (.inr ⟨rfl,hr,tq,_,I2⟩),ax⟩;exact wW
    ·have q7:zq≠dt:=fun e=>by rw[e,c7] at hzq;cases hzq
     have dk:∀{j:Nat} {o:aY},τ j=some o→j≠dt→xw j=some o:=fun {j o} hj h=>ez _ _ ((cn h).trans ((cn (fun e=>by rw[e,hzq] at hj;cases hj)).trans hj));have d7:=ez dt _ cj;have d8:=ez zq _ ((cn q7).trans cj);have q8:ρ zq=none:=by
      cases hc:ρ zq with
      |none=>rfl
      |some o=>rw[hle zq o hc] at hzq;cases hzq
     have I2:AnI ρ b v ep t aq ah ak ao az bj du dt ⟨0,false,t,⟨t.dev,t.ep,wg,t.cu⟩,X⟩ (.vec 28 zq 0 X.length) xw:=⟨fun j o hj=>dk (hle j o hj) (fg u7 hj),dk c1 (ij c1 c7 (bG br)),dk c2 (ij c2 c7 (bG br)),dk c3 (ij c3 c7 (bG br)),dk c4 (ij c4 c7 (bG br)),dk c5 (ij c5 c7 (bG br)),dk c6 n67,d7,.inr ⟨zq,rfl,d8,q8⟩⟩
     clear ez hle c1 c2 c3 c4 c5 c6 c7 h2 kv kg d7 d8 dk;repeat' first|(refine wM ?_;(first|(have _:=dt)|(have _:=du;intro dt)|(have _:=bj;intro du)|(have _:=az;intro bj)|(have _:=ao;intro az)|(have _:=ak;intro ao)|(have _:=ah;intro ak)|(intro ah));intros)|refine wV ?_|(refine wY ?_ ?_<;>intro h)|refine aw @ai ?_|exact ev @ai|fail
     refine .of (.less ?_ ba) ⟨(2,xw),rfl,rfl,.inr (.inr ⟨rfl,hr,tq,_,I2⟩),ax⟩;exact wW
  ·simp only at hi;subst hi;obtain⟨hle,c1,c2,c3,c4,c5,c6,c7,hw⟩:=hI;simp only at hle c1 c2 c3 c4 c5 c6 c7 hw ⊢;have kv:=hle v _ Ev;obtain⟨r1,r2,r3⟩:=BA hr;have hep:t.ep=ep:=oM;have hXl:X.length≤1000:=by
    have hlen:=hz.len;have e:X=(eS z.log t.sq z.now t.cu aq).1:=by rw[hX]
    rw[e];unfold eS vE;have q1:=vV ((lj z.log t.sq z.now t.cu).take (lP (lj z.log t.sq z.now t.cu) (ZS aq) (lj z.log t.sq z.now t.cu).length));have q2:=oS ((lj z.log t.sq z.now t.cu).take (lP (lj z.log t.sq z.now t.cu) (ZS aq) (lj z.log t.sq z.now t.cu).length));have q3:=xO z.log t.sq z.now t.cu;rw[av] at q2;simp only;omega
   have ea:oI (bY W fl mk 1073741824) z ep t aq=if wg=z.now∧t.cu<1073741824∧(X.length:Int)<aq then⟨0,false,t,⟨t.dev,t.ep,wg,(eU (bY W fl mk 1073741824) t.cu (aq-(X.length:Int))).2⟩,X++jw (eU (bY W fl mk 1073741824) t.cu (aq-(X.length:Int))).1⟩ else⟨0,false,t,⟨t.dev,t.ep,wg,t.cu⟩,X⟩:=by unfold oI Jv;rw[hr,if_neg br,if_neg Z9,hX]
   by_cases Z4:wg=z.now∧t.cu<1073741824∧(X.length:Int)<aq
   ·rw[if_pos Z4] at ea;obtain⟨g1,g2,g3⟩:=Z4;subst g1;have h3:=H8 hW V.D Ef iz d r1 r2 r3 mk z.floor z.now (.vec 31 g 0 z.log.length) X (w:=w) (hw.imp id fun⟨r,h1,h2,_⟩=>⟨r,h1,h2⟩) (fun j o hj=>hle j o (Eb j o hj)) c5 c7 c2 c4 c1 kv g2 g3;have hwn:∀{j:Nat} {o:aY},τ j=some o→(∀xs,o≠.row 164 28 xs)→∀r,w=.vec 28 r 0 X.length→j≠r:=fun {j o} hj ho r e q=>by
     rcases hw with⟨-,h⟩|⟨r0,h,h4,-⟩
     ·rw[h] at e;cases e
     ·rw[h] at e;injection e with _ e;subst e;subst q;rw[hj] at h4;exact ho _ (Option.some.inj h4)
    have ZP:∀{j:Nat} {o:aY},ρ j=some o→∀r,w=.vec 28 r 0 X.length→j≠r:=fun {j o} hj r e q=>by
     rcases hw with⟨-,h⟩|⟨r0,h,-,h4⟩
     ·rw[h] at e;cases e
     ·rw[h] at e;injection e with _ e;subst e;subst q;rw[hj] at h4;cases h4
    repeat' first|(refine wM ?_;(first|(have _:=dt)|(have _:=du;intro dt)|(have _:=bj;intro du)|(have _:=az;intro bj)|(have _:=ao;intro az)|(have _:=ak;intro ao)|(have _:=ah;intro ak)|(intro ah));intros)|refine wV ?_|(refine wY ?_ ?_<;>intro h)|refine vu @ai @c1 @c2 @c3 @c4 @c5 @c6 @c7 ?_|exact xu @ai @c1 @c2 @c3 @c4 @c5 @c6 @c7|fail
    refine gJ ba h3 ?_;rintro _ za xw ⟨rfl,zq,d',z1,z2,z3,z4,z5⟩ ez -;have kf:=hle f _ Ef';have d6:=ez du _ (z5 du _ c6 n67 (ij c6 kf (bG br)) (hwn c6 fun xs e=>by cases e));have d7:=ez dt _ z2;have d8:=ez zq _ z3;have df:=ez f _ z4;have q6:zq≠du:=fun e=>by rw[e,c6] at z1;cases z1
    have qf:zq≠f:=fun e=>by rw[e,kf] at z1;cases z1
    have f6:f≠du:=ij kf c6 (bG br);have q8:ρ zq=none:=by
     cases hc:ρ zq with
     |none=>rfl
     |some o=>rw[hle zq o hc] at z1;cases z1
    have si:∀j o,ρ j=some o→j≠f→xw j=some o:=fun j o hj h=>ez j o (z5 j o (hle j o hj) (fg u7 hj) h (ZP hj));clear ez hle c1 c2 c3 c4 c5 c6 c7 h3 kv kf z1 z2 z3 z4 z5 hwn ZP hw;rw[←hPP,ea];obtain⟨⟨Y,at_⟩,hY⟩:∃Y,eU (bY W fl mk 1073741824) t.cu (aq-(X.length:Int))=Y:=⟨_,rfl⟩
    rw[hY] at d7 d8 ⊢;simp only at d7 d8 ⊢;repeat' first|(refine wM ?_;(first|(have _:=dt)|(have _:=du;intro dt)|(have _:=bj;intro du)|(have _:=az;intro bj)|(have _:=ao;intro az)|(have _:=ak;intro ao)|(have _:=ah;intro ak)|(intro ah));intros)|refine wV ?_|(refine wY ?_ ?_<;>intro h)|refine fx @ai @d6 @d7 ?_|exact tk @ai @d6 @d7|fail
    refine El' (p:=⟨0,false,t,⟨t.dev,t.ep,z.now,at_⟩,X++jw Y⟩) d' (.inr ⟨zq,(cn qf).trans q8,by simp only[an],fun j o hj=>?_⟩);by_cases hj1:j=zq
    ·subst hj1;rw[aD] at hj;rw[cn q6,←hj];exact d8
    ·rw[cn hj1] at hj;by_cases hj2:j=f
     ·subst hj2;rw[aD] at hj;rw[cn f6,←hj];exact df
     ·rw[cn hj2] at hj;rw[cn (fg u6 hj)];exact si j o hj hj2
   ·rw[if_neg Z4] at ea;have h3:=H9 r1 r2 r3 mk z.floor z.now wg (.vec 31 g 0 z.log.length) X hXl (w:=w) (hw.imp id fun⟨r,h1,_⟩=>⟨r,h1⟩) c5 c7 c2 c4 c1 kv Z4;rw[←hPP,ea];have hwc:w.aP=true:=by rcases hw with⟨-,h⟩|⟨r,h,-⟩<;>rw[h]<;>rfl
    repeat' first|(refine dB h3 ba ?_)|(refine wM ?_;(first|(have _:=dt)|(have _:=du;intro dt)|(have _:=bj;intro du)|(have _:=az;intro bj)|(have _:=ao;intro az)|(have _:=ak;intro ao)|(have _:=ah;intro ak)|(intro ah));intros)|refine wV ?_|(refine wY ?_ ?_<;>intro h)|refine wZ9 @ai @c1 @c2 @c3 @c4 @c5 @c6 @c7 @hwc ?_|simp(maxSteps:=4000000) (disch:=first|exact gd|fail) only[go_sem,simprocAttr,ai,c1,c2,c3,c4,c5,c6,c7,hwc]|fail
    refine El (p:=⟨0,false,t,⟨t.dev,t.ep,wg,t.cu⟩,X⟩) (hw.imp (fun⟨h1,h2⟩=>⟨h1,h2,cO hle u6⟩) fun⟨r,h1,h2,h4⟩=>⟨r,h4,h1,b0 (cO hle u6) ((cn (ij h2 c6 (bG br))).trans h2)⟩)
def tC{W:BK}(hW:dx W){m l q b f sm g v:Nat}(V:mM m l q b f sm g v){fl:List ND}(iz:bR fl=0)(d:Bool)(mk:UInt32){z:VS}(hz:LInv z)(hnw:z.now≤1099511627776)(ex:List (List MV))(ep:Int)(t:TO)(aq:Int) :
  aA Tryz.prog 50 [.ptr b 0 0,.ptr v 0 0,.int .i64 ep,.agg t.c,.int .i64 aq] (fy m l q b W f fl d sm g v mk z ex) (fun r af=>∃d',r=.agg (oI (bY W fl mk 1073741824) z ep t aq).c∧af=fy m l q b W f fl d' sm g v mk z ex):=by
 refine aA.gh ((E7 hW V iz d mk hz hnw ex ep t aq).mono ?_);obtain⟨p,hp⟩:∃p,oI (bY W fl mk 1073741824) z ep t aq=p:=⟨_,rfl⟩
 rw[hp];rintro _ _ ⟨d',w,rfl,h⟩;rcases h with⟨e,rfl,rfl⟩|⟨q1,hq,rfl,rfl⟩
 ·refine .of (aR.freeze bx bt ba (fun k o hk=>rfl) (fun y hy=>?_)) ⟨_,rfl,d',rfl,rfl⟩;rw[a9] at hy;subst hy;exact zw (by rw[e];exact .nil _ _)
 ·refine .of (aR.freeze (bx.set q1 (.row 164 28 (p.items.map ab))) (b0 bt cj) (St.bC ba hq) (fun k o hk=>?_) (fun y hy=>?_)) ⟨_,rfl,d',rfl,rfl⟩
  ·rw[cn (fun e=>by subst e;rw[hq] at hk;cases hk)];rfl
  ·rw[a9] at hy;subst hy;exact zw (View.cq cj (ag _).symm)
def Cx(b:Nat)(ep:Int)(t:TO)(aq:Int):aA Tryz.prog 50 [.ptr b 0 0,.ej,.int .i64 ep,.agg t.c,.int .i64 aq] bx (fun r _=>r=.agg (Gm t aq).c):=by
 refine aA.seen (mB 33 [.cell 10 109] Tryz.func50 ?_);repeat' first|(refine wM ?_;(first|(have _:=dt)|(have _:=du;intro dt)|(have _:=bj;intro du)|(have _:=az;intro bj)|(have _:=ao;intro az)|(have _:=ak;intro ao)|(have _:=ah;intro ak)|(intro ah));intros)|refine wV ?_|(refine wY ?_ ?_<;>intro h)|refine bu @Tryz.f50.eq_1 @ai ?_|exact fk @Tryz.f50.eq_1 @ai|fail
 have n76:dt≠du:=bc;have n67:=bf n76;have c2:(((((((bx.set ah (.row 34 1 [[.ptr b 0 0]])).set ak (.row 44 1 [[.ej]])).set ao (.row 3 1 [[.int .i64 ep]])).set az (.row 103 4 [t.c])).set bj (.row 3 1 [[.int .i64 aq]])).set du (.row 109 11 [[.int .i64 0,.bool false,.int .i64 0,.int .i64 0,.int .i64 0,.int .i64 0,.int .i64 0,.int .i64 0,.int .i64 0,.int .i64 0,.aK]])).set dt (.row 109 11 [[.int .i64 0,.bool false,.int .i64 t.dev,.int .i64 t.ep,.int .i64 t.sq,.int .i64 t.cu,.int .i64 0,.int .i64 0,.int .i64 0,.int .i64 0,.aK]])) ak=some (.row 44 1 [[.ej]]):=by simp[bz, *]
 have c4:(((((((bx.set ah (.row 34 1 [[.ptr b 0 0]])).set ak (.row 44 1 [[.ej]])).set ao (.row 3 1 [[.int .i64 ep]])).set az (.row 103 4 [t.c])).set bj (.row 3 1 [[.int .i64 aq]])).set du (.row 109 11 [[.int .i64 0,.bool false,.int .i64 0,.int .i64 0,.int .i64 0,.int .i64 0,.int .i64 0,.int .i64 0,.int .i64 0,.int .i64 0,.aK]])).set dt (.row 109 11 [[.int .i64 0,.bool false,.int .i64 t.dev,.int .i64 t.ep,.int .i64 t.sq,.int .i64 t.cu,.int .i64 0,.int .i64 0,.int .i64 0,.int .i64 0,.aK]])) az=some (.row 103 4 [t.c]):=by simp[bz, *]
 have c5:(((((((bx.set ah (.row 34 1 [[.ptr b 0 0]])).set ak (.row 44 1 [[.ej]])).set ao (.row 3 1 [[.int .i64 ep]])).set az (.row 103 4 [t.c])).set bj (.row 3 1 [[.int .i64 aq]])).set du (.row 109 11 [[.int .i64 0,.bool false,.int .i64 0,.int .i64 0,.int .i64 0,.int .i64 0,.int .i64 0,.int .i64 0,.int .i64 0,.int .i64 0,.aK]])).set dt (.row 109 11 [[.int .i64 0,.bool false,.int .i64 t.dev,.int .i64 t.ep,.int .i64 t.sq,.int .i64 t.cu,.int .i64 0,.int .i64 0,.int .i64 0,.int .i64 0,.aK]])) bj=some (.row 3 1 [[.int .i64 aq]]):=by simp[bz, *]
 have c6:(((((((bx.set ah (.row 34 1 [[.ptr b 0 0]])).set ak (.row 44 1 [[.ej]])).set ao (.row 3 1 [[.int .i64 ep]])).set az (.row 103 4 [t.c])).set bj (.row 3 1 [[.int .i64 aq]])).set du (.row 109 11 [[.int .i64 0,.bool false,.int .i64 0,.int .i64 0,.int .i64 0,.int .i64 0,.int .i64 0,.int .i64 0,.int .i64 0,.int .i64 0,.aK]])).set dt (.row 109 11 [[.int .i64 0,.bool false,.int .i64 t.dev,.int .i64 t.ep,.int .i64 t.sq,.int .i64 t.cu,.int .i64 0,.int .i64 0,.int .i64 0,.int .i64 0,.aK]])) du=some (.row 109 11 [[.int .i64 0,.bool false,.int .i64 0,.int .i64 0,.int .i64 0,.int .i64 0,.int .i64 0,.int .i64 0,.int .i64 0,.int .i64 0,.aK]]):=by simp[bz, *]
 have c7:(((((((bx.set ah (.row 34 1 [[.ptr b 0 0]])).set ak (.row 44 1 [[.ej]])).set ao (.row 3 1 [[.int .i64 ep]])).set az (.row 103 4 [t.c])).set bj (.row 3 1 [[.int .i64 aq]])).set du (.row 109 11 [[.int .i64 0,.bool false,.int .i64 0,.int .i64 0,.int .i64 0,.int .i64 0,.int .i64 0,.int .i64 0,.int .i64 0,.int .i64 0,.aK]])).set dt (.row 109 11 [[.int .i64 0,.bool false,.int .i64 t.dev,.int .i64 t.ep,.int .i64 t.sq,.int .i64 t.cu,.int .i64 0,.int .i64 0,.int .i64 0,.int .i64 0,.aK]])) dt=some (xq ⟨0,false,t,ui,[]⟩ .aK):=by simp[bz,ui, *]
 obtain⟨τ,hτ⟩:∃τ,((((((bx.set ah (.row 34 1 [[.ptr b 0 0]])).set ak (.row 44 1 [[.ej]])).set ao (.row 3 1 [[.int .i64 ep]])).set az (.row 103 4 [t.c])).set bj (.row 3 1 [[.int .i64 aq]])).set du (.row 109 11 [[.int .i64 0,.bool false,.int .i64 0,.int .i64 0,.int .i64 0,.int .i64 0,.int .i64 0,.int .i64 0,.int .i64 0,.int .i64 0,.aK]])).set dt (.row 109 11 [[.int .i64 0,.bool false,.int .i64 t.dev,.int .i64 t.ep,.int .i64 t.sq,.int .i64 t.cu,.int .i64 0,.int .i64 0,.int .i64 0,.int .i64 0,.aK]])=τ:=⟨_,rfl⟩
 rw[hτ] at c2 c4 c5 c6 c7 ⊢;clear hτ;refine aG (α:=Unit) (fun s=>⟨33,[(26,.int .i64 0),(25,.agg [.fn (.func 118) [] [.ptr az 0 0,.ptr bj 0 0,.ptr dt 0 0,.ptr ak 0 0],.fn (.func 120) [] [.ptr ak 0 0,.ptr az 0 0,.ptr bj 0 0,.ptr ao 0 0,.ptr dt 0 0],.fn (.func 122) [] [.ptr bj 0 0,.ptr dt 0 0,.ptr ak 0 0,.ptr az 0 0,.ptr ah 0 0]]),(11,.ptr dt 0 0),(10,.ptr du 0 0)],[]⟩) (fun _=>τ) (fun _=>True) (fun _=>0) (.of (.less ?_ ba) ⟨(),rfl,rfl,trivial⟩) ?_
 ·exact wW
 ·intro _ _;have e54:bj≠az:=ij c5 c4 (bG br);have e74:dt≠az:=ij c7 c4 (bG br);have e75:dt≠bj:=ij c7 c5 (bG br);have e24:ak≠az:=ij c2 c4 (bG br);have e25:ak≠bj:=ij c2 c5 (bG br);have e27:ak≠dt:=ij c2 c7 (bG br);have h1:=Bn e54 e74 e75 e24 e25 e27 t aq true 0;simp only[vc,if_true,Bool.or_true] at h1;repeat' first|(refine wM ?_;(first|(have _:=dt)|(have _:=du;intro dt)|(have _:=bj;intro du)|(have _:=az;intro bj)|(have _:=ao;intro az)|(have _:=ak;intro ao)|(have _:=ah;intro ak)|(intro ah));intros)|refine wV ?_|(refine wY ?_ ?_<;>intro h)|refine xv @ai @c2 @c4 @c5 @c6 @c7 ?_|exact wC6 @ai @c2 @c4 @c5 @c6 @c7|fail
  refine gJ (b0 (b0 (b0 (b0 bt c4) c5) c2) c7) h1 ?_;rintro _ za xw ⟨rfl,rfl⟩ ez kj;have d7:=ez dt _ cj;have d6:=(kj du _ c6 (by simp only[aM];exact⟨n67,ij c6 c2 (bG br),ij c6 c5 (bG br),ij c6 c4 (bG br),rfl⟩)).1;clear kj ez c2 c4 c5 c6 c7 h1;obtain⟨cd,hcd⟩:∃cd:Int,(if rO t aq=true then 1 else 6)=cd:=⟨_,rfl⟩
  simp only[hcd] at d7;have ea:Gm t aq=⟨cd,false,t,ui,[]⟩:=by unfold Gm;rw[hcd]
  rw[ea];repeat' first|(refine wM ?_;(first|(have _:=dt)|(have _:=du;intro dt)|(have _:=bj;intro du)|(have _:=az;intro bj)|(have _:=ao;intro az)|(have _:=ak;intro ao)|(have _:=ah;intro ak)|(intro ah));intros)|refine wV ?_|(refine wY ?_ ?_<;>intro h)|refine fx @ai @d6 @d7 ?_|exact tk @ai @d6 @d7|fail
  all_goals exact zw (p:=⟨cd,false,t,ui,[]⟩) (.nil _ _)
def I9(x:RU):Bool:=((decide (bR x.fl≠0) || !decide (x.mask.toNat≤511)) || qA x.pre) || qA x.post
def LF{x:RU}(h:I9 x=false):bR x.fl=0∧x.mask.toNat≤511∧x.pre.length≤120∧x.post.length≤120:=by unfold I9 qA at h;simp only[Bool.or_eq_false_iff,Bool.not_eq_false',decide_eq_true_eq,decide_eq_false_iff_not,ne_eq,Decidable.not_not] at h;omega
def Fu(x:RU):aA Tryz.prog 47 [.agg x.c] bx (fun r _=>r=.bool (I9 x)):=by
 refine aA.bV (mB 23 [.tmp 2] Tryz.func47 ?_);have h1:=FH x.fl false;have h2:=wX x.mask;have h3:=Bt x.pre false;have h4:=Bt x.post false;unfold I9;generalize qA x.pre=b at h3 ⊢;generalize qA x.post=c at h4 ⊢;generalize decide (x.mask.toNat≤511)=e at h2 ⊢;generalize bR x.fl=n at h1 ⊢;by_cases hn:n=0
 ·subst hn;cases b<;>cases c<;>cases e;all_goals
   repeat' first|(with_reducible first|refine up h1 ?_|refine up h2 ?_|refine up h3 ?_|refine up h4 ?_)|(refine wO ?_;intros)|(refine wY ?_ ?_<;>intro h)|refine bu @Tryz.f47.eq_1 @ai ?_|exact fk @Tryz.f47.eq_1 @ai|fail
   all_goals exact lE
 ·rw[decide_eq_true hn];repeat' first|(with_reducible first|refine up h1 ?_|refine up h2 ?_|refine up h3 ?_|refine up h4 ?_)|(refine wO ?_;intros)|(refine wY ?_ ?_<;>intro h)|refine fx @Tryz.f47.eq_1 @ai @hn ?_|exact tk @Tryz.f47.eq_1 @ai @hn|fail
  all_goals exact lE
def Wd:oI (bY qS [pt] 1 1073741824) ⟨ZT (nk qS [pt]),2,2,[]⟩ 1 ⟨0,1,2,0⟩ 1=⟨0,false,⟨0,1,2,0⟩,⟨0,1,2,1⟩,[⟨1,fV Z1 1⟩]⟩:=by
 have h1:rO ⟨0,1,2,0⟩ 1=false:=by decide +kernel
 have h2:eS ([]:List TU) 2 2 0 1=([],2):=rfl;unfold oI Jv;simp only[h1,h2,a6];rw[if_neg br,if_neg br,if_pos br];rw[show((1:Int)-((0:Nat):Int))=1 from rfl,QO];rfl
def QN:dx qS:=Wg dK
def Ui{m l q b n:Nat}(D:eB m l q b)(hn:n≠m∧n≠l∧n≠q∧n≠b) :
  aA Tryz.prog 15 [.ptr b 0 0,.vec 5 n 0 1,.int .u32 1] ((dh m l q b qS []).set n (.row 121 5 [pt.c])) (fun r af=>∃f sm g v d,mM m l q b f sm g v∧r=.ptr v 0 0∧af=fy m l q b qS f [pt] d sm g v 1 ⟨ZT (nk qS [pt]),2,2,[]⟩ []) :=
 ID (B:=qS) (mk:=1) Md br (fun g hg=>by cases hg) D hn JV br
def YH:∃X:List MV,(PG.c ⟨0,false,⟨0,1,2,0⟩,⟨0,1,2,1⟩,[⟨1,fV Z1 1⟩]⟩:List MV)=[.int .i64 0,.bool false,.int .i64 0,.int .i64 1,.int .i64 2,.int .i64 0,.int .i64 0,.int .i64 1,.int .i64 2,.int .i64 1,.aj 28 [.int .i64 1::.int .i64 1::X] false]:=⟨_,rfl⟩
def Wo{m l q b f sm g v:Nat}(V:mM m l q b f sm g v)(d:Bool):∃X:List MV,aA Tryz.prog 50 [.ptr b 0 0,.ptr v 0 0,.int .i64 1,.agg [.int .i64 0,.int .i64 1,.int .i64 2,.int .i64 0],.int .i64 1] (fy m l q b qS f [pt] d sm g v 1 ⟨ZT (nk qS [pt]),2,2,[]⟩ []) (fun r af=>∃d',r=.agg [.int .i64 0,.bool false,.int .i64 0,.int .i64 1,.int .i64 2,.int .i64 0,.int .i64 0,.int .i64 1,.int .i64 2,.int .i64 1,.aj 28 [.int .i64 1::.int .i64 1::X] false]∧af=fy m l q b qS f [pt] d' sm g v 1 ⟨ZT (nk qS [pt]),2,2,[]⟩ []):=by have h:=tC QN V JV d 1 (z:=⟨ZT (nk qS [pt]),2,2,[]⟩) (Jp QN [pt]).toLInv br [] 1 ⟨0,1,2,0⟩ 1;rw[Wd] at h;obtain⟨X,hX⟩:=YH;rw[hX] at h;exact⟨X,h⟩
def Ea:aA Tryz.prog 48 [] bx (fun r _=>r=.bool true):=by
 refine aA.bV (mB 47 [.tmp 0] Tryz.func48 ?_);have k1:=fun {m l q b:Nat} (D:eB m l q b)=>VQ (nx:=1) (sq:=0) D.lm D.bm D.bl (.vec 3 q 0 0) (.aj 2 [] false) [] br br br br br br;have k2:=fun {m l q b:Nat} (D:eB m l q b)=>VQ (nx:=2) (sq:=1) D.lm D.bm D.bl (.vec 3 q 0 0) (.aj 2 [] false) [Z1] br br br dK br br;have gi:aA Tryz.prog 60 [] bx _:=y9;repeat' first|((refine Na gi ?_;intro m l q b hm hl hq hb D;clear hm hl hq hb;simp only[wk,ad,a6];have D':=D;obtain⟨d1,d2,d3,d4,d5,d6⟩:=D;have e1:=bf d1;have e2:=bf d2;have e3:=bf d3;have e4:=bf d4;have e5:=bf d5;have e6:=bf d6))|(refine wM ?_;(first|(have _:=ak)|(have _:=ah;intro ak)|(intro ah));intros)|refine wV ?_|(refine wY ?_ ?_<;>intro h)|refine bu @Tryz.f48.eq_1 @ai ?_|exact fk @Tryz.f48.eq_1 @ai|fail
 refine T1 (k1 D') (R7 sS sS sS) ?_;rw[show(bW 1 pa1)=Z1 from rfl,List.nil_append];repeat' first|(refine wM ?_;(first|(have _:=ak)|(have _:=ah;intro ak)|(intro ah));intros)|refine wV ?_|(refine wY ?_ ?_<;>intro h)|refine aw @ai ?_|exact ev @ai|fail
 refine T1 (k2 D') (R7 sS sS sS) ?_;rw[show(bW 2 pa1)=rj from rfl,List.singleton_append];repeat' first|(refine wM ?_;(first|(have _:=ak)|(have _:=ah;intro ak)|(intro ah));intros)|refine wV ?_|(refine wY ?_ ?_<;>intro h)|refine aw @ai ?_|exact ev @ai|fail
 have n1:ak≠m:=bc;have n2:ak≠l:=bc;have n3:ak≠q:=bc;have n4:ak≠b:=bc;have n5:=bf n1;have n6:=bf n2;have n7:=bf n3;have n8:=bf n4;refine T2 (Ui D' ⟨n1,n2,n3,n4⟩) (b0 (We (by show _=some (aY.mp (dm [Z1,rj]));simp[bz, *]) (by show _=some (fh 3 m (.vec 3 q 0 0));simp[bz, *]) (by show _=some (aY.row 197 3 []);simp[bz, *]) (by show _=some (bM 2 l (.aj 2 [] false));simp[bz, *])) cj) (by simp only[aM];exact⟨n4,n3,n2,n1,rfl⟩) fun f sm g v d V hf hs hg hv=>?_;clear hf hs hg hv;obtain⟨X,hans⟩:=Wo V d;obtain⟨-,⟨f1,f2,f3,f4⟩,⟨s1,s2,s3,s4,s5⟩,⟨g1,g2,g3,g4,g5,g6⟩,⟨v1,v2,v3,v4,v5,v6,v7⟩⟩:=V;have f1':=bf f1;have f2':=bf f2;have f3':=bf f3;have f4':=bf f4;have s1':=bf s1;have s2':=bf s2;have s3':=bf s3;have s4':=bf s4;have s5':=bf s5;have g1':=bf g1;have g2':=bf g2;have g3':=bf g3;have g4':=bf g4;have g5':=bf g5;have g6':=bf g6;have v1':=bf v1;have v2':=bf v2;have v3':=bf v3;have v4':=bf v4;have v5':=bf v5;have v6':=bf v6;have v7':=bf v7;repeat' first|(refine wM ?_;(first|(have _:=ak)|(have _:=ah;intro ak)|(intro ah));intros)|refine wV ?_|(refine wY ?_ ?_<;>intro h)|refine aw @ai ?_|exact ev @ai|fail
 refine gJ (Ys (by show _=some (aY.mp (dm [Z1,rj]));simp[bz,b5, *]) (by show _=some (fh 3 m (.vec 3 q 0 0));simp[bz,b5, *]) (by show _=some (aY.row 197 3 []);simp[bz,b5, *]) (by show _=some (bM 2 l (.aj 2 [] false));simp[bz,b5, *]) sS sS sS sS) hans ?_;rintro _ za xw ⟨d2,rfl,rfl⟩ - -;repeat' first|(refine wM ?_;(first|(have _:=ak)|(have _:=ah;intro ak)|(intro ah));intros)|refine wV ?_|(refine wY ?_ ?_<;>intro h)|refine aw @ai ?_|exact ev @ai|fail
 all_goals first|exact⟨_,ba,rfl⟩|exact⟨_,ba⟩|trace_state
def Qq{W:List CA}{z w:VS}(h:y8 z w)(ep:Int)(t:TO)(aq:Int):oI W w ep t aq=oI W z ep t aq:=by obtain⟨h1,h2,h3⟩:=h;unfold oI Jv;rw[h1,h2,h3]
def Uc{W:List CA}(hW:W.length≤48){z:VS}(hz:z.log.length≤40)(ep:Int)(t:TO)(aq:Int):(oI W z ep t aq).items.length≤1000:=by
 have hc:(eS z.log t.sq z.now t.cu aq).1.length≤40:=by unfold eS vE;have q1:=vV ((lj z.log t.sq z.now t.cu).take (lP (lj z.log t.sq z.now t.cu) (ZS aq) (lj z.log t.sq z.now t.cu).length));have q2:=oS ((lj z.log t.sq z.now t.cu).take (lP (lj z.log t.sq z.now t.cu) (ZS aq) (lj z.log t.sq z.now t.cu).length));have q3:=xO z.log t.sq z.now t.cu;rw[av] at q2;simp only;omega
 unfold oI;split
 ·exact be _
 ·split
  ·exact be _
  ·unfold Jv;split
   ·have hf:=AO (W:=W) t.cu (aq-((eS z.log t.sq z.now t.cu aq).1.length:Int));have hi:∀Y:List CA,(jw Y).length=Y.length:=fun Y=>ag _;simp only[an,hi];omega
   ·simp only;omega
def uD(x:RU)(t:TO)(a b:Int):aA Tryz.prog 7 [.agg x.c,.agg t.c,.agg [.int .i64 a,.int .i64 b]] bx (fun r _=>r=.bool true):=by
 refine aA.bV (mB 71 [.tmp 6] Tryz.func7 ?_);have hsk:=Fu x;have haw:=Ea;obtain⟨sk,hsk'⟩:∃z,I9 x=z:=⟨_,rfl⟩
 rw[hsk'] at hsk;cases sk
 rotate_left
 ·repeat' first|(refine aC hsk ?_)|(refine aC haw ?_)|(refine wM ?_;(first|(have _:=du)|(have _:=bj;intro du)|(have _:=az;intro bj)|(have _:=ao;intro az)|(have _:=ak;intro ao)|(have _:=ah;intro ak)|(intro ah));intros)|refine wV ?_|(refine wY ?_ ?_<;>intro h)|refine jf @Tryz.f7.eq_1 @ai @ac.{0,0} @ad.{0,0} ?_|exact ZY @Tryz.f7.eq_1 @ai @ac.{0,0} @ad.{0,0}|fail
  all_goals exact lE
 ·by_cases hb:b<1∨1099511627776<b
  ·by_cases Z2:b<1
   ·repeat' first|(refine aC hsk ?_)|(refine aC haw ?_)|(refine wM ?_;(first|(have _:=du)|(have _:=bj;intro du)|(have _:=az;intro bj)|(have _:=ao;intro az)|(have _:=ak;intro ao)|(have _:=ah;intro ak)|(intro ah));intros)|refine wV ?_|(refine wY ?_ ?_<;>intro h)|refine jf @Tryz.f7.eq_1 @ai @ac.{0,0} @ad.{0,0} ?_|exact ZY @Tryz.f7.eq_1 @ai @ac.{0,0} @ad.{0,0}|fail
    all_goals exact lE
   ·repeat' first|(refine aC hsk ?_)|(refine aC haw ?_)|(refine wM ?_;(first|(have _:=du)|(have _:=bj;intro du)|(have _:=az;intro bj)|(have _:=ao;intro az)|(have _:=ak;intro ao)|(have _:=ah;intro ak)|(intro ah));intros)|refine wV ?_|(refine wY ?_ ?_<;>intro h)|refine jf @Tryz.f7.eq_1 @ai @ac.{0,0} @ad.{0,0} ?_|exact ZY @Tryz.f7.eq_1 @ai @ac.{0,0} @ad.{0,0}|fail
    all_goals exact lE
  ·have Z2:¬b<1:=oM;have me:¬1099511627776<b:=oM;obtain⟨iz,hmk,mo,hpost⟩:=LF hsk';have hbeg:=Ec x (fun _ _ _=>True) (fun _ _ _ _=>trivial) (fun _ _ _ _ _ _ _=>trivial) iz hmk mo hpost;repeat' first|(refine aC hsk ?_)|(refine wM ?_;(first|(have _:=du)|(have _:=bj;intro du)|(have _:=az;intro bj)|(have _:=ao;intro az)|(have _:=ak;intro ao)|(have _:=ah;intro ak)|(intro ah));intros)|refine wV ?_|(refine wY ?_ ?_<;>intro h)|refine jf @Tryz.f7.eq_1 @ai @ac.{0,0} @ad.{0,0} ?_|exact ZY @Tryz.f7.eq_1 @ai @ac.{0,0} @ad.{0,0}|fail
   all_goals try(exfalso;omega)
   refine gJ bt hbeg ?_;rintro _ za τ ⟨m,l,q,bb,f,d,sm,g,v,z,w,all,ex,V,hI,ef,rfl,rfl⟩ hle kj;obtain⟨x1,y1⟩:=kj ah _ (by simp[bz, *];rfl) rfl;obtain⟨x2,y2⟩:=kj ak _ (by simp[bz, *];rfl) rfl;obtain⟨x3,y3⟩:=kj ao _ (by simp[bz, *];rfl) rfl;clear kj;obtain⟨W,hWe⟩:∃W,kM (kM wk x.pre) x.post=W:=⟨_,rfl⟩
   rw[hWe] at hI hle y1 y2 y3 ⊢;obtain⟨hW,hV,h3,-⟩:=hI;repeat' first|(refine wM ?_;(first|(have _:=du)|(have _:=bj;intro du)|(have _:=az;intro bj)|(have _:=ao;intro az)|(have _:=ak;intro ao)|(have _:=ah;intro ak)|(intro ah));intros)|refine wV ?_|(refine wY ?_ ?_<;>intro h)|refine xv @ai @x1 @x2 @x3 @ac.{0,0} @ad.{0,0} ?_|exact wC6 @ai @x1 @x2 @x3 @ac.{0,0} @ad.{0,0}|fail
   have yj:τ az=none:=bc;have n41:az≠ah:=fun e=>by rw[e,x1] at yj;cases yj
   have n42:az≠ak:=fun e=>by rw[e,x2] at yj;cases yj
   have n43:az≠ao:=fun e=>by rw[e,x3] at yj;cases yj
   have n14:=bf n41;have n24:=bf n42;have n34:=bf n43;have y4:fy m l q bb W f x.fl d sm g v x.mask z ex az=none:=by
    cases hc:fy m l q bb W f x.fl d sm g v x.mask z ex az with
    |none=>rfl
    |some o=>rw[hle az o hc] at yj;cases yj
   repeat' first|(refine wM ?_;(first|(have _:=du)|(have _:=bj;intro du)|(have _:=az;intro bj)|(have _:=ao;intro az)|(have _:=ak;intro ao)|(have _:=ah;intro ak)|(intro ah));intros)|refine wV ?_|(refine wY ?_ ?_<;>intro h)|refine xv @ai @x1 @x2 @x3 @ac.{0,0} @ad.{0,0} ?_|exact wC6 @ai @x1 @x2 @x3 @ac.{0,0} @ad.{0,0}|fail
   have ay:=hV.at_;have je:=hW.sq2;have hp:=tC hW V iz d x.mask hV.toLInv oM ex b t a;refine gJ (cO hle y4) hp ?_;rintro _ za xw ⟨d2,rfl,rfl⟩ ez uw;obtain⟨w1,-⟩:=uw ah _ ((cn n14).trans x1) y1;obtain⟨w2,-⟩:=uw ak _ ((cn n24).trans x2) y2;obtain⟨w3,-⟩:=uw ao _ ((cn n34).trans x3) y3;obtain⟨w4,-⟩:=uw az _ cj y4;clear uw ez hle x1 x2 x3 y1 y2 y3 y4 yj;have hpn:=Cx bb b t a;have hgl:W.gr.length≤1000000:=by have:=hW.ng;omega
   have hgm:∀g,g∈W.gr→g.mem.length≤1000000:=fun g hg=>by have:=hW.nm g hg;omega
   have hlog:w.log=z.log:=h3.2.2.symm;have hlen:=hV.len;have ra:=FB hW.toBkR hgl hgm iz false x.mask w (by rw[hlog];omega) (by rw[hlog];exact hV.tok) (by rw[hlog];exact fun t ht=>⟨hV.sqb t ht,by have:=hV.now t ht;omega⟩) b t a;rw[Qq h3] at ra;have rn:=CO b t a;have iq:=Uc (Q1 hW x.fl x.mask 1073741824) hlen b t a;obtain⟨PP,hPP⟩:∃P,oI (bY W x.fl x.mask 1073741824) z b t a=P:=⟨_,rfl⟩
   rw[hPP] at ra iq ⊢;have hs1:=xA PP PP oM;rw[decide_eq_true rfl] at hs1;obtain⟨QQ,hQQ⟩:∃P,Gm t a=P:=⟨_,rfl⟩
   have hs2:=xA (Gm t a) (Gm t a) (be _);rw[decide_eq_true rfl] at hs2;rw[hQQ] at rn hpn hs2;have hdd:=mO W;obtain⟨C,k1,k2,k3,k4,k5⟩:∃C:b9,(∀y,C 16 [y]=some ⟨[],fun v=>v=.agg W.c,none⟩)∧(∀a1 a2 a3 a4 a5,C 52 [a1,a2,.bool false,a3,a4,a5]=some ⟨[],fun v=>v=.agg PP.c,none⟩)∧(∀a1 a2 a3 a4 a5,C 52 [a1,a2,.bool true,a3,a4,a5]=some ⟨[],fun v=>v=.agg QQ.c,none⟩)∧(∀y z,C 51 [y,z]=some ⟨[],fun v=>v=.bool true,none⟩)∧C 48 []=some ⟨[],fun v=>v=.bool true,none⟩ :=
    ⟨fun g ms=>match ms with
     |[_,_,.bool false,_,_,_]=>some ⟨[],fun v=>v=.agg PP.c,none⟩
     |[_,_,.bool true,_,_,_]=>some ⟨[],fun v=>v=.agg QQ.c,none⟩
     |[_,_]=>some ⟨[],fun v=>v=.bool true,none⟩
     |[_]=>some ⟨[],fun v=>v=.agg W.c,none⟩
     |_=>some ⟨[],fun v=>v=.bool true,none⟩,fun _=>rfl,fun _ _ _ _ _=>rfl,fun _ _ _ _ _=>rfl,fun _ _=>rfl,rfl⟩
   repeat' first|(refine wM ?_;(first|(have _:=du)|(have _:=bj;intro du)|(have _:=az;intro bj)|(have _:=ao;intro az)|(have _:=ak;intro ao)|(have _:=ah;intro ak)|(intro ah));intros)|refine wV ?_|(refine wY ?_ ?_<;>intro h)|refine wh @ai @w1 @w2 @w3 @w4 @ac.{0,0} @ad.{0,0} ?_|exact yz @ai @w1 @w2 @w3 @w4 @ac.{0,0} @ad.{0,0}|fail
   have te:xw bj=none:=bc;have n51:bj≠ah:=fun e=>by rw[e,w1] at te;cases te
   have n52:bj≠ak:=fun e=>by rw[e,w2] at te;cases te
   have n53:bj≠ao:=fun e=>by rw[e,w3] at te;cases te
   have n54:bj≠az:=fun e=>by rw[e,w4] at te;cases te
   have n15:=bf n51;have n25:=bf n52;have n35:=bf n53;have n45:=bf n54;repeat' first|(refine aC hpn ?_)|(refine wM ?_;(first|(have _:=du)|(have _:=bj;intro du)|(have _:=az;intro bj)|(have _:=ao;intro az)|(have _:=ak;intro ao)|(have _:=ah;intro ak)|(intro ah));intros)|refine wV ?_|(refine wY ?_ ?_<;>intro h)|refine wh @ai @w1 @w2 @w3 @w4 @ac.{0,0} @ad.{0,0} ?_|exact yz @ai @w1 @w2 @w3 @w4 @ac.{0,0} @ad.{0,0}|fail
   have hn6:xw du=none:=bc;have n61:du≠ah:=fun e=>by rw[e,w1] at hn6;cases hn6
   have n62:du≠ak:=fun e=>by rw[e,w2] at hn6;cases hn6
   have n63:du≠ao:=fun e=>by rw[e,w3] at hn6;cases hn6
   have n64:du≠az:=fun e=>by rw[e,w4] at hn6;cases hn6
   have n16:=bf n61;have n26:=bf n62;have n36:=bf n63;have n46:=bf n64;have n65:du≠bj:=bc;have n56:=bf n65;repeat' first|(refine wM ?_;(first|(have _:=du)|(have _:=bj;intro du)|(have _:=az;intro bj)|(have _:=ao;intro az)|(have _:=ak;intro ao)|(have _:=ah;intro ak)|(intro ah));intros)|refine wV ?_|(refine wY ?_ ?_<;>intro h)|refine wh @ai @w1 @w2 @w3 @w4 @ac.{0,0} @ad.{0,0} ?_|exact yz @ai @w1 @w2 @w3 @w4 @ac.{0,0} @ad.{0,0}|fail
   refine aJ mixed dK C ?_;repeat' first|(with_reducible refine aF (k1 _) hdd ?_)|(with_reducible refine aF (k2 _ _ _ _ _) ra ?_)|(with_reducible refine aF (k3 _ _ _ _ _) rn ?_)|(with_reducible refine aF (k4 _ _) hs1 ?_)|(with_reducible refine aF (k4 _ _) hs2 ?_)|(with_reducible refine aF k5 haw ?_)|(refine wM ?_;(first|(have _:=du)|(have _:=bj;intro du)|(have _:=az;intro bj)|(have _:=ao;intro az)|(have _:=ak;intro ao)|(have _:=ah;intro ak)|(intro ah));intros)|refine wV ?_|(refine wY ?_ ?_<;>intro h)|refine wh @ai @w1 @w2 @w3 @w4 @ac.{0,0} @ad.{0,0} ?_|exact yz @ai @w1 @w2 @w3 @w4 @ac.{0,0} @ad.{0,0}|fail
   all_goals first|exact⟨_,bt,rfl⟩|exact⟨_,bt⟩|exact⟨_,ba,rfl⟩|exact⟨_,ba⟩|trace_state
def YE{m:MV}(h:AT Tryz.prog 10 103 m):∃s:TO,m=.agg s.c:=by obtain⟨cs,rfl,h1⟩:=Jz (by rw[BW];rfl) h;obtain⟨x,rfl⟩:=YO (n:=8) h1;exact⟨x,rfl⟩
structure PR where
 a:Int
 b:Int
abbrev PR.c(q:PR):List MV:=[.int .i64 q.a,.int .i64 q.b]
def XZ{n:Nat}{x:List MV}(h:CT Tryz.prog (n+2) 104 x):∃d:PR,x=d.c:=by obtain⟨hl,hf⟩:=Gy (congrArg TD.k M6) h;rw[M6] at hl;obtain⟨a,ha,_⟩:=yJ (hf 0 br);obtain⟨b,hb,_⟩:=yJ (hf 1 br);simp only[td3] at ha hb;refine⟨⟨a,b⟩,?_⟩;rw[oD hl [(0,1),(1,1)] rfl];simp only[yP];rw[show x.drop 0=x.drop (0*1) from rfl,ha,show x.drop 1=x.drop (1*1) from rfl,hb];rfl
def Xs{m:MV}(h:AT Tryz.prog 10 104 m):∃s:PR,m=.agg s.c:=by obtain⟨cs,rfl,h1⟩:=Jz (by rw[M6];rfl) h;obtain⟨x,rfl⟩:=XZ (n:=8) h1;exact⟨x,rfl⟩
def yM(x:RU)(t:TO)(q:PR):aA Tryz.prog 7 [.agg x.c,.agg t.c,.agg q.c] bx (fun r _=>r=.bool true):=uD x t q.a q.b
section
open Go.ChangeShapes Go.WideShapes Go.RowKit
def Rg:PC.mayEnter=true:=by kernel_rfl
def UH:PC.mainIs=some (Rows.viewNoneCard.stood.harness.1,Rows.viewNoneCard.stood.harness.2.toList):=by kernel_rfl
def Rk:false=PC.looks []:=by kernel_rfl
end
