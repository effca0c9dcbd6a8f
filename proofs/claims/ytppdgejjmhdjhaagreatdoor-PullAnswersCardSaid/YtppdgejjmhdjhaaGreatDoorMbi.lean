/- Parts of the proof; conditions: as its theorems name them. -/
import Derived.Test.YtppdgejjmhdjhaaGreatDoorMbh
import Derived.Test.YtppdgejjmhdjhaaGreatDoorCards
import Derived.Test.YtppdgejjmhdjhaaGreatDoorTie
set_option linter.all false
set_option maxHeartbeats 8000000
set_option maxRecDepth 100000
namespace Go.Proofs.YtppdgejjmhdjhaaGreatDoor
open Classical renaming not_not->aa
open List renaming length_append->ab,length_map->ac,length_singleton->ad,getLastD_cons->ag,length_take->am,map_append->an,length_filter_le->ap
open Ne renaming symm->au
open St renaming none->av,set->aI,aB->aN,bC->a0
open TU renaming c->a5
def XH{m l q b f sm g v:Nat}{B:BK}{fl:List ND}{d:Bool}{mk:UInt32}{z:VS}{ex:List (List MV)}(V:mM m l q b f sm g v):(dh m l q b B []).le (fy m l q b B f fl d sm g v mk z ex):=by obtain⟨D,⟨f1,f2,f3,f4⟩,⟨s1,s2,s3,s4,s5⟩,⟨g1,g2,g3,g4,g5,g6⟩,⟨v1,v2,v3,v4,v5,v6,v7⟩⟩:=V;exact cO (cO (cO (cO ba (gE f1 f2 f3 f4)) (gE s1 s2 s3 s4)) (gE g1 g2 g3 g4)) (gE v1 v2 v3 v4)
def Gd{m l q b f sm g v:Nat}{B:BK}{fl:List ND}{d:Bool}{mk:UInt32}{z:VS}{ex:List (List MV)}{j:Nat}:fy m l q b B f fl d sm g v mk z ex j=none↔j≠v∧j≠g∧j≠sm∧j≠f∧j≠b∧j≠q∧j≠l∧j≠m:=by simp only[aM];exact⟨fun⟨a,b,c,d,e,f,g,h,_⟩=>⟨a,b,c,d,e,f,g,h⟩,fun⟨a,b,c,d,e,f,g,h⟩=>⟨a,b,c,d,e,f,g,h,rfl⟩⟩
def VK{m l q q' b f sm g v:Nat}{B B':BK}{fl:List ND}{d:Bool}{mk:UInt32}{z:VS}{ex:List (List MV)}{τ:St}(V:mM m l q b f sm g v)(D':eB m l q' b)(h1:(dh m l q' b B' []).le τ)(h2:∀j o,fy m l q b B f fl d sm g v mk z ex j=some o→dh m l q b B [] j=none→τ j=some o∧dh m l q' b B' [] j=none) :
  mM m l q' b f sm g v∧(fy m l q' b B' f fl d sm g v mk z ex).le τ:=by
 obtain⟨D,⟨f1,f2,f3,f4⟩,⟨s1,s2,s3,s4,s5⟩,⟨g1,g2,g3,g4,g5,g6⟩,⟨v1,v2,v3,v4,v5,v6,v7⟩⟩:=V;have a1:=h2 v _ cj (gE v1 v2 v3 v4);have a2:=h2 g (pk z.log ex) (by simp[aI,au v7]) (gE g1 g2 g3 g4);have a3:=h2 sm (.mp (yp z.sh)) (by simp[aI,au v6,au g6]) (gE s1 s2 s3 s4);have a4:=h2 f (jm fl d) (by simp[aI,au v5,au g5,au s5]) (gE f1 f2 f3 f4);obtain⟨b1,c1⟩:=a1;obtain⟨b2,c2⟩:=a2;obtain⟨b3,c3⟩:=a3;obtain⟨b4,c4⟩:=a4;refine⟨⟨D',?_,?_,?_,?_⟩,aN (aN (aN (aN h1 b4) b3) b2) b1⟩
 ·simp only[aM] at c4;exact⟨f1,f2,c4.2.1,f4⟩
 ·simp only[aM] at c3;exact⟨s1,s2,c3.2.1,s4,s5⟩
 ·simp only[aM] at c2;exact⟨g1,g2,c2.2.1,g4,g5,g6⟩
 ·simp only[aM] at c1;exact⟨v1,v2,c1.2.1,v4,v5,v6,v7⟩
def Ls(U:GU)(o:Nat){B:BK}(x:ED)(he:aQ x≠0∨1099511627676<B.sq):aA Tryz.prog 20 [.ptr o 0 2,.agg x.c] (av.set o (gO U B)) (yr U o B x):=by
 refine jP ?_;unfold Ab;have er:=cC x;by_cases h1:aQ x=0
 ·have h2:=he.resolve_left fun h=>h h1;have hd:mc B x=(8,B,[]):=by unfold mc;rw[if_neg (by simpa using h1),if_pos h2]
  obtain⟨q1,q2,q3⟩:=fO br hd;rw[q1,q2,q3];rw[h1] at er;clear he hd q1 q2 q3;refine(mB 92 [.tmp 4,.tmp 5] Tryz.func20 ?_);repeat' first|(refine aC er ?_)|(refine wO ?_;intros)|(refine wY ?_ ?_<;>intro h)|refine bu @Tryz.f20.eq_1 @ai ?_|exact fk @Tryz.f20.eq_1 @ai|fail
  all_goals try(exfalso;omega)
  all_goals exact a0 ba (by simp[aI,av, *])
 ·have hd:mc B x=(aQ x,B,[]):=by unfold mc;rw[if_pos h1]
  obtain⟨q1,q2,q3⟩:=fO h1 hd;rw[q1,q2,q3];obtain⟨e,uv⟩:∃e,aQ x=e:=⟨_,rfl⟩
  rw[uv] at er h1 ⊢;clear he hd q1 q2 q3;refine(mB 92 [.tmp 4,.tmp 5] Tryz.func20 ?_);repeat' first|(refine aC er ?_)|(refine wO ?_;intros)|(refine wY ?_ ?_<;>intro h)|refine bu @Tryz.f20.eq_1 @ai ?_|exact fk @Tryz.f20.eq_1 @ai|fail
  all_goals try(exfalso;omega)
  all_goals exact a0 ba (by simp[aI,av, *])
def PD(U:GU)(o:Nat){B:BK}(hb:dx B)(p:PA)(id gr:Int)(he:aQ ⟨1,id,gr,p⟩=0)(hs:B.sq≤1099511627676):aA Tryz.prog 20 [.ptr o 0 2,.agg (ED.mk 1 id gr p).c] (av.set o (gO U B)) (yr U o B ⟨1,id,gr,p⟩):=by
 have er:=cC ⟨1,id,gr,p⟩;rw[he] at er;have hd:=iS he hs;have hp:=(bF he).2.2.2.2 rfl;simp only[if_pos] at hd;have je:=hb.tj;have Zi:=hb.nc;have yv:=hb.nx1;have ha:=Lr U o B oM p hp oM hb.nx2;refine jP ?_;unfold Ab;by_cases hf:48≤B.ae.length∨1073741824≤B.nx
 ·rw[if_pos hf] at hd;simp only[if_pos hf] at ha;obtain⟨q1,q2,q3⟩:=fO br hd;rw[q1,q2,q3];obtain⟨K,hK,c1⟩:∃K:b9,pq (.dz [82]) K∧∀ms,K 82 ms=some ⟨[o],fun _=>True,some ([gO U B],fun _=>.ar [.agg ig.c,.int .i64 8])⟩ :=
   ⟨nu [(82,⟨[o],fun _=>True,some ([gO U B],fun _=>.ar [.agg ig.c,.int .i64 8])⟩)],gZ,fun _=>cH⟩
  clear hd q1 q2 q3 hf he;refine(mB 92 [.tmp 4,.tmp 5] Tryz.func20 ?_);repeat' first|(refine aC er ?_)|(refine bP mixed [82] dK K hK ?_)|(refine cZ (o:=gO U B) (c1 _) sS ha ?_)|(refine wO ?_;intros)|(refine wY ?_ ?_<;>intro h)|refine bu @Tryz.f20.eq_1 @ai ?_|exact fk @Tryz.f20.eq_1 @ai|fail
  all_goals try(exfalso;omega)
  exact a0 (a0 ba (by simp[aI,av, *])) (by simp[aI,av, *])
 ·rw[if_neg hf] at hd;simp only[if_neg hf] at ha;obtain⟨q1,q2,q3⟩:=nO hd (n:=1) rfl;rw[q1,q2,q3];have zf:(bW B.nx p).id=B.nx:=rfl;have dg:=iO U o ⟨B.sq,B.nx+1,B.ae++[bW B.nx p],B.dead,B.gr⟩ B.nx je (by simp only;omega);obtain⟨c,hc⟩:∃c,bW B.nx p=c:=⟨_,rfl⟩
  rw[hc] at ha dg zf ⊢;obtain⟨X,hX⟩:∃X,B.ae++[c]=X:=⟨_,rfl⟩
  rw[hX] at ha dg ⊢;obtain⟨K,hK,c1⟩:∃K:b9,pq (.dz [82]) K∧∀ms,K 82 ms=some ⟨[o],fun _=>True,some ([gO U ⟨B.sq,B.nx+1,X,B.dead,B.gr⟩],fun _=>.ar [.agg c.c,.int .i64 0])⟩ :=
   ⟨nu [(82,⟨[o],fun _=>True,some ([gO U ⟨B.sq,B.nx+1,X,B.dead,B.gr⟩],fun _=>.ar [.agg c.c,.int .i64 0])⟩)],gZ,fun _=>cH⟩
  clear hd q1 q2 q3 hf he;generalize cR B.sq [B.nx]=Z at dg ⊢;refine(mB 92 [.tmp 4,.tmp 5] Tryz.func20 ?_);repeat' first|(refine aC er ?_)|(refine bP mixed [82] dK K hK ?_)|(refine cZ (o:=gO U B) (c1 _) sS ha ?_)|(refine wO ?_;intros)|(refine wY ?_ ?_<;>intro h)|refine fx @Tryz.f20.eq_1 @ai @zf ?_|exact tk @Tryz.f20.eq_1 @ai @zf|fail
  all_goals try(exfalso;omega)
  refine cB (by simp[aI, *];done) dg ?_;repeat' first|(refine wO ?_;intros)|(refine wY ?_ ?_<;>intro h)|refine ed ?_|exact ll|fail
  exact aN bt sS
def PE(U:GU)(o:Nat){B:BK}(hb:dx B)(p:PA)(id gr:Int)(he:aQ ⟨2,id,gr,p⟩=0)(hs:B.sq≤1099511627676):aA Tryz.prog 20 [.ptr o 0 2,.agg (ED.mk 2 id gr p).c] (av.set o (gO U B)) (yr U o B ⟨2,id,gr,p⟩):=by
 have er:=cC ⟨2,id,gr,p⟩;rw[he] at er;have hd:=iS he hs;have hp:=(bF he).2.2.2.2 rfl;rw[if_neg ax,if_pos rfl] at hd;simp only at hd;have je:=hb.tj;refine jP ?_;unfold Ab;by_cases hw:(a8 B.ae B.dead id).2≠0∨1099511627776≤(a8 B.ae B.dead id).1.c9
 ·have ha:=CU U o hb id p hp hw;have hd:mc B ⟨2,id,gr,p⟩=(uj B.ae B.dead id,B,[]):=by
   rw[hd];unfold uj;by_cases h1:(a8 B.ae B.dead id).2≠0
   ·rw[if_pos h1,if_pos h1]
   ·rw[if_neg h1,if_neg h1,if_pos (hw.resolve_left h1)]
  have he0:uj B.ae B.dead id≠0:=by
   unfold uj;split
   ·assumption
   ·decide
  obtain⟨q1,q2,q3⟩:=fO he0 hd;rw[q1,q2,q3];obtain⟨e,uv⟩:∃e,uj B.ae B.dead id=e:=⟨_,rfl⟩
  rw[uv] at ha he0 ⊢;obtain⟨K,hK,c1⟩:∃K:b9,pq (.dz [83]) K∧∀ms,K 83 ms=some ⟨[o],fun _=>True,some ([gO U B],fun _=>.ar [.agg ig.c,.int .i64 e])⟩ :=
   ⟨nu [(83,⟨[o],fun _=>True,some ([gO U B],fun _=>.ar [.agg ig.c,.int .i64 e])⟩)],gZ,fun _=>cH⟩
  clear hd q1 q2 q3 hw he uv;refine(mB 92 [.tmp 4,.tmp 5] Tryz.func20 ?_);repeat' first|(refine aC er ?_)|(refine bP mixed [83] dK K hK ?_)|(refine cZ (o:=gO U B) (c1 _) sS ha ?_)|(refine wO ?_;intros)|(refine wY ?_ ?_<;>intro h)|refine bu @Tryz.f20.eq_1 @ai ?_|exact fk @Tryz.f20.eq_1 @ai|fail
  all_goals try(exfalso;omega)
  exact a0 (a0 ba (by simp[aI,av, *])) (by simp[aI,av, *])
 ·have h1:¬(a8 B.ae B.dead id).2≠0:=fun h=>hw (.inl h);have h2:¬1099511627776≤(a8 B.ae B.dead id).1.c9:=fun h=>hw (.inr h);rw[if_neg h1,if_neg h2] at hd;have hc:a8 B.ae B.dead id=((a8 B.ae B.dead id).1,0):=Prod.ext rfl (aa.1 h1);have ha:=FL U o hb id p hp hc oM;obtain⟨q1,q2,q3⟩:=nO hd (n:=1) rfl;rw[q1,q2,q3];simp only;obtain⟨c,hcc⟩:∃c,dI (a8 B.ae B.dead id).1 p=c:=⟨_,rfl⟩
  rw[hcc] at ha ⊢;obtain⟨X,hX⟩:∃X,vv B.ae id c=X:=⟨_,rfl⟩
  rw[hX] at ha ⊢;have dg:=iO U o ⟨B.sq,B.nx,X,B.dead,B.gr⟩ id je (by simp only;omega);obtain⟨K,hK,c1⟩:∃K:b9,pq (.dz [83]) K∧∀ms,K 83 ms=some ⟨[o],fun _=>True,some ([gO U ⟨B.sq,B.nx,X,B.dead,B.gr⟩],fun _=>.ar [.agg c.c,.int .i64 0])⟩ :=
   ⟨nu [(83,⟨[o],fun _=>True,some ([gO U ⟨B.sq,B.nx,X,B.dead,B.gr⟩],fun _=>.ar [.agg c.c,.int .i64 0])⟩)],gZ,fun _=>cH⟩
  clear hd q1 q2 q3 hw he h1 h2 hc hcc hX;generalize cR B.sq [id]=Z at dg ⊢;refine(mB 92 [.tmp 4,.tmp 5] Tryz.func20 ?_);repeat' first|(refine aC er ?_)|(refine bP mixed [83] dK K hK ?_)|(refine cZ (o:=gO U B) (c1 _) sS ha ?_)|(refine wO ?_;intros)|(refine wY ?_ ?_<;>intro h)|refine bu @Tryz.f20.eq_1 @ai ?_|exact fk @Tryz.f20.eq_1 @ai|fail
  all_goals try(exfalso;omega)
  refine cB (by simp[aI, *];done) dg ?_;repeat' first|(refine wO ?_;intros)|(refine wY ?_ ?_<;>intro h)|refine ed ?_|exact ll|fail
  exact aN bt sS
def PF(U:GU)(o:Nat){B:BK}(hb:dx B)(p:PA)(id gr:Int)(he:aQ ⟨3,id,gr,p⟩=0)(hs:B.sq≤1099511627676):aA Tryz.prog 20 [.ptr o 0 2,.agg (ED.mk 3 id gr p).c] (av.set o (gO U B)) (yr U o B ⟨3,id,gr,p⟩):=by
 have er:=cC ⟨3,id,gr,p⟩;rw[he] at er;have hd:=iS he hs;rw[if_neg ax,if_neg ax,if_pos rfl] at hd;simp only at hd;have je:=hb.tj;refine jP ?_;unfold Ab;by_cases h1:(a8 B.ae B.dead id).2≠0
 ·rw[if_pos h1] at hd;have ha:=FE U o hb id (B.sq+1) h1;obtain⟨q1,q2,q3⟩:=fO h1 hd;rw[q1,q2,q3];obtain⟨e,uv⟩:∃e,(a8 B.ae B.dead id).2=e:=⟨_,rfl⟩
  rw[uv] at ha h1 ⊢;obtain⟨K,hK,c1⟩:∃K:b9,pq (.dz [84]) K∧∀ms,K 84 ms=some ⟨[o],fun _=>True,some ([gO U B],fun _=>.int .i64 e)⟩ :=
   ⟨nu [(84,⟨[o],fun _=>True,some ([gO U B],fun _=>.int .i64 e)⟩)],gZ,fun _=>cH⟩
  clear hd q1 q2 q3 he uv;refine(mB 92 [.tmp 4,.tmp 5] Tryz.func20 ?_);repeat' first|(refine aC er ?_)|(refine bP mixed [84] dK K hK ?_)|(refine cZ (o:=gO U B) (c1 _) sS ha ?_)|(refine wO ?_;intros)|(refine wY ?_ ?_<;>intro h)|refine bu @Tryz.f20.eq_1 @ai ?_|exact fk @Tryz.f20.eq_1 @ai|fail
  all_goals try(exfalso;omega)
  exact a0 (a0 ba (by simp[aI,av, *])) (by simp[aI,av, *])
 ·rw[if_neg h1] at hd;have hc:a8 B.ae B.dead id=((a8 B.ae B.dead id).1,0):=Prod.ext rfl (aa.1 h1);have ha:=FF U o hb id hc oM;have Zg:=zP B.gr hb.se id false;obtain⟨q1,q2,q3⟩:=nO hd (n:=1) rfl;rw[q1,q2,q3];simp only;obtain⟨F,hF⟩:∃F,B.ae.filter (fun c=>!decide (c.id=id))=F:=⟨_,rfl⟩
  obtain⟨T,hT⟩:∃T,oR (B.dead++[⟨id,(a8 B.ae B.dead id).1.c9,B.sq+1⟩])=T:=⟨_,rfl⟩
  rw[hF,hT] at ha ⊢;have dg:=iO U o ⟨B.sq,B.nx,F,T,lz B.gr id⟩ id je (by simp only;omega);obtain⟨R,hR⟩:∃R,(lz B.gr id).map GR.c=R:=⟨_,rfl⟩
  rw[hR] at Zg;simp only[gO,hR] at dg ⊢;obtain⟨K,hK,c1,c2⟩:∃K:b9,pq (.dz [84]) K∧(∀ms,K 84 ms=some ⟨[o],fun _=>True,some ([gO U ⟨B.sq,B.nx,F,T,B.gr⟩],fun _=>.int .i64 0)⟩)∧∀ms,K 85 ms=some ⟨[],fun v=>v=.aj 2 R false,none⟩ :=
   ⟨nu [(84,⟨[o],fun _=>True,some ([gO U ⟨B.sq,B.nx,F,T,B.gr⟩],fun _=>.int .i64 0)⟩),(85,⟨[],fun v=>v=.aj 2 R false,none⟩)],Bs (fun p hp=>by simp only[List.mem_cons,List.not_mem_nil,or_false] at hp;rcases hp with rfl|rfl<;>simp),fun _=>cH,fun _=>iB cH⟩
  clear hd q1 q2 q3 he h1 hc hF hT hR;generalize cR B.sq [id]=Z at dg ⊢;refine(mB 92 [.tmp 4,.tmp 5] Tryz.func20 ?_);repeat' first|(refine aC er ?_)|(refine bP mixed [84] dK K hK ?_)|(refine cZ (o:=gO U B) (c1 _) sS ha ?_)|(with_reducible refine AY (c2 _) Zg ?_)|(refine wO ?_;intros)|(refine wY ?_ ?_<;>intro h)|refine bu @Tryz.f20.eq_1 @ai ?_|exact fk @Tryz.f20.eq_1 @ai|fail
  all_goals try(exfalso;omega)
  refine cB (by simp[aI, *];done) dg ?_;repeat' first|(refine wO ?_;intros)|(refine wY ?_ ?_<;>intro h)|refine ed ?_|exact ll|fail
  exact aN bt sS
def PI(U:GU)(o:Nat){B:BK}(hb:dx B)(p:PA)(id gr:Int)(he:aQ ⟨5,id,gr,p⟩=0)(hs:B.sq≤1099511627676):aA Tryz.prog 20 [.ptr o 0 2,.agg (ED.mk 5 id gr p).c] (av.set o (gO U B)) (yr U o B ⟨5,id,gr,p⟩):=by
 have er:=cC ⟨5,id,gr,p⟩;rw[he] at er;have hd:=iS he hs;obtain⟨g1,g2⟩:=(bF he).2.2.1;rw[if_neg ax,if_neg ax,if_neg ax,if_neg ax,if_pos rfl] at hd;simp only at hd g1 g2;refine jP ?_;unfold Ab;by_cases hg:gr∈B.gr.map GR.no
 ·rw[if_pos hg] at hd;have ha:=CQ U o hb gr g1 g2 hg hs;obtain⟨q1,q2,q3⟩:=nO hd rfl;rw[q1,q2,q3];simp only;obtain⟨X,hX⟩:∃X,gO U ⟨B.sq+(bH B.gr gr++[0]).length,B.nx,B.ae,B.dead,k8 B.gr gr⟩=X:=⟨_,rfl⟩
  rw[hX] at ha ⊢;generalize cR B.sq (bH B.gr gr++[0])=Z at ha ⊢;clear hd q1 q2 q3 he hg;refine(mB 92 [.tmp 4,.tmp 5] Tryz.func20 ?_);repeat' first|(refine aC er ?_)|(refine cB (by simp[aI, *];done) ha ?_)|(refine wO ?_;intros)|(refine wY ?_ ?_<;>intro h)|refine bu @Tryz.f20.eq_1 @ai ?_|exact fk @Tryz.f20.eq_1 @ai|fail
  all_goals try(exfalso;omega)
  exact aN bt sS
 ·rw[if_neg hg] at hd;have ha:=CP U o hb gr g1 g2 hg;obtain⟨q1,q2,q3⟩:=fO br hd;rw[q1,q2,q3];clear hd q1 q2 q3 he hg;refine(mB 92 [.tmp 4,.tmp 5] Tryz.func20 ?_);repeat' first|(refine aC er ?_)|(refine cB (o:=gO U B) (by simp[aI, *];done) ha ?_)|(refine wO ?_;intros)|(refine wY ?_ ?_<;>intro h)|refine bu @Tryz.f20.eq_1 @ai ?_|exact fk @Tryz.f20.eq_1 @ai|fail
  all_goals try(exfalso;omega)
  exact aN bt sS
def PH(U:GU)(o:Nat){B:BK}(hb:dx B)(p:PA)(id gr:Int)(he:aQ ⟨4,id,gr,p⟩=0)(hs:B.sq≤1099511627676):aA Tryz.prog 20 [.ptr o 0 2,.agg (ED.mk 4 id gr p).c] (av.set o (gO U B)) (yr U o B ⟨4,id,gr,p⟩):=by
 have er:=cC ⟨4,id,gr,p⟩;rw[he] at er;have ha:=Px U o hb p id gr he hs;refine jP ?_;unfold Ab;unfold yr at ha;generalize lp B ⟨4,id,gr,p⟩=V at ha ⊢;generalize iv B ⟨4,id,gr,p⟩=E at ha ⊢;generalize gO U (fw B ⟨4,id,gr,p⟩)=X at ha ⊢;clear he;refine(mB 92 [.tmp 4,.tmp 5] Tryz.func20 ?_);repeat' first|(refine aC er ?_)|(refine cB (o:=gO U B) (by simp[aI, *];done) ha ?_)|(refine wO ?_;intros)|(refine wY ?_ ?_<;>intro h)|refine bu @Tryz.f20.eq_1 @ai ?_|exact fk @Tryz.f20.eq_1 @ai|fail
 all_goals try(exfalso;omega)
 exact aN bt sS
def PJ(U:GU)(o:Nat){B:BK}(hb:dx B)(p:PA)(id gr:Int)(he:aQ ⟨6,id,gr,p⟩=0)(hs:B.sq≤1099511627676):aA Tryz.prog 20 [.ptr o 0 2,.agg (ED.mk 6 id gr p).c] (av.set o (gO U B)) (yr U o B ⟨6,id,gr,p⟩):=by
 have er:=cC ⟨6,id,gr,p⟩;rw[he] at er;have ha:=Py U o hb p id gr he hs;refine jP ?_;unfold Ab;unfold yr at ha;generalize lp B ⟨6,id,gr,p⟩=V at ha ⊢;generalize iv B ⟨6,id,gr,p⟩=E at ha ⊢;generalize gO U (fw B ⟨6,id,gr,p⟩)=X at ha ⊢;clear he;refine(mB 92 [.tmp 4,.tmp 5] Tryz.func20 ?_);repeat' first|(refine aC er ?_)|(refine cB (o:=gO U B) (by simp[aI, *];done) ha ?_)|(refine wO ?_;intros)|(refine wY ?_ ?_<;>intro h)|refine bu @Tryz.f20.eq_1 @ai ?_|exact fk @Tryz.f20.eq_1 @ai|fail
 all_goals try(exfalso;omega)
 exact aN bt sS
def PK(U:GU)(o:Nat){B:BK}(hb:dx B)(p:PA)(id gr:Int)(he:aQ ⟨7,id,gr,p⟩=0)(hs:B.sq≤1099511627676):aA Tryz.prog 20 [.ptr o 0 2,.agg (ED.mk 7 id gr p).c] (av.set o (gO U B)) (yr U o B ⟨7,id,gr,p⟩):=by
 have er:=cC ⟨7,id,gr,p⟩;rw[he] at er;have ha:=Pz U o hb p id gr he hs;refine jP ?_;unfold Ab;unfold yr at ha;generalize lp B ⟨7,id,gr,p⟩=V at ha ⊢;generalize iv B ⟨7,id,gr,p⟩=E at ha ⊢;generalize gO U (fw B ⟨7,id,gr,p⟩)=X at ha ⊢;clear he;refine(mB 92 [.tmp 4,.tmp 5] Tryz.func20 ?_);repeat' first|(refine aC er ?_)|(refine cB (o:=gO U B) (by simp[aI, *];done) ha ?_)|(refine wO ?_;intros)|(refine wY ?_ ?_<;>intro h)|refine bu @Tryz.f20.eq_1 @ai ?_|exact fk @Tryz.f20.eq_1 @ai|fail
 all_goals try(exfalso;omega)
 exact aN bt sS
def DU(U:GU)(o:Nat){B:BK}(hb:dx B)(x:ED):aA Tryz.prog 20 [.ptr o 0 2,.agg x.c] (av.set o (gO U B)) (yr U o B x):=by
 by_cases he:aQ x≠0∨1099511627676<B.sq
 ·exact Ls U o x he
 ·have h1:aQ x=0:=aa.1 fun h=>he (.inl h);have h2:B.sq≤1099511627676:=by have:¬1099511627676<B.sq:=fun h=>he (.inr h);omega
  obtain⟨k1,k2,-⟩:=bF h1;obtain⟨k,id,gr,p⟩:=x;simp only at k1 k2;have:k=1∨k=2∨k=3∨k=4∨k=5∨k=6∨k=7:=oM;rcases this with rfl|rfl|rfl|rfl|rfl|rfl|rfl
  ·exact PD U o hb p id gr h1 h2
  ·exact PE U o hb p id gr h1 h2
  ·exact PF U o hb p id gr h1 h2
  ·exact PH U o hb p id gr h1 h2
  ·exact PI U o hb p id gr h1 h2
  ·exact PJ U o hb p id gr h1 h2
  ·exact PK U o hb p id gr h1 h2
abbrev gV(U:GU)(fl:List ND)(tf:Bool)(mk:UInt32)(w:VS):aY:=.row 106 13 [[U.a,U.b,U.c,U.d,U.e,U.f,U.g,.aj 5 (fl.map ND.c) tf,.int .u32 (mk.toNat:Int),.int .i64 w.floor,.int .i64 w.now,.aj 31 (w.log.map a5) false,U.h]]
abbrev py(p q:MV)(B:BK)(fl:List ND)(tf:Bool)(mk:UInt32)(w:VS)(al:MV):aY:=.row 106 13 [[p,q,.int .i64 B.sq,.int .i64 B.nx,.aj 27 (B.ae.map CA.c) false,.aj 3 (B.dead.map DE.c) false,.aj 2 (B.gr.map GR.c) false,.aj 5 (fl.map ND.c) tf,.int .u32 (mk.toNat:Int),.int .i64 w.floor,.int .i64 w.now,.aj 31 (w.log.map a5) false,al]]
def GD(U:GU)(o:Nat){was now:BK}(hw:dx was)(hn:dx now){fl:List ND}(hp:bR fl=0)(tf:Bool)(mk:UInt32)(w:VS)(hl:w.log.length≤1000)(seq id:Int) :
  aA Tryz.prog 99 [.ptr o 0 7,.agg was.c,.agg now.c,.agg [.int .i64 seq,.int .i64 id]] (av.set o (gV U fl tf mk w)) (fun r af=>r=.ar []∧af=av.set o (gV U fl tf mk (qC was now fl mk w seq id))):=by
 have q1:∀{B:BK},dx B→B.gr.length≤1000000:=fun h=>by have:=h.ng;omega
 have q2:∀{B:BK},dx B→∀g,g∈B.gr→g.mem.length≤1000000:=fun h g hg=>by have:=h.nm g hg;omega
 have oz:=zS now hn.toBkR (q1 hn) (q2 hn) fl hp tf id;have hve:=PT was hw.toBkR (q1 hw) (q2 hw) fl hp tf id;have xl:=BG ((shown now fl id).getD ig) mk;have vg:=FJ seq (dE was fl id) id (fV ((shown now fl id).getD ig) mk) (shown now fl id).isSome;have hT:oG seq (dE was fl id) id (fV ((shown now fl id).getD ig) mk) (shown now fl id).isSome=oH now fl mk (dE was fl id) seq id:=rfl;rw[hT,yY] at vg;unfold qC;by_cases h0:id=0
 ·subst h0;rw[if_pos rfl];refine aA.gh (mB 82 [] Tryz.func99 ?_);clear oz hve xl vg;repeat' first|(refine wM ?_;(first|(have _:=ZR)|(have _:=rb;intro ZR)|(have _:=dt;intro rb)|(have _:=du;intro dt)|(have _:=bj;intro du)|(have _:=az;intro bj)|(have _:=ao;intro az)|(have _:=ak;intro ao)|(have _:=ah;intro ak)|(intro ah));intros)|refine wV ?_|(refine wY ?_ ?_<;>intro h)|refine bu @Tryz.f99.eq_1 @ai ?_|exact fk @Tryz.f99.eq_1 @ai|fail
  all_goals try(exfalso;omega)
  all_goals exact .of (aR.drop (aN bt sS)) ⟨_,rfl,rfl,rfl⟩
 rw[if_neg h0];obtain⟨c,hc⟩:∃c,(shown now fl id).getD ig=c:=⟨_,rfl⟩
 obtain⟨is,his⟩:∃is,(shown now fl id).isSome=is:=⟨_,rfl⟩
 obtain⟨T,hTe⟩:∃T,oH now fl mk (dE was fl id) seq id=T:=⟨_,rfl⟩
 obtain⟨vo,hvo⟩:∃v,dE was fl id=v:=⟨_,rfl⟩
 obtain⟨vn,hvn⟩:∃v,dE now fl id=v:=⟨_,rfl⟩
 obtain⟨pc,hpc⟩:∃pc,fV c mk=pc:=⟨_,rfl⟩
 rw[hc,his] at oz vg;rw[hc] at xl;rw[hpc] at xl vg;rw[hTe,hvo,hvn] at vg;rw[hvo] at hve;rw[hTe,hvo,hvn];clear hT hTe hvo hvn hpc hc his;by_cases he:vo=vn
 ·rw[if_pos he,decide_eq_true he,Bool.not_true] at vg;rw[if_pos he,if_pos he];obtain⟨C,k1,k2,k3,k4⟩:=kw4 183 ⟨[],fun v=>v=.ar [.agg c.c,.bool is],none⟩ 117 ⟨[],fun v=>v=.int .i64 vo,none⟩ 92 ⟨[],fun v=>v=.agg pc.c,none⟩ 184 ⟨[],fun v=>v=.ar [.agg tu0.c,.bool false],none⟩;refine aA.gh (mB 82 [] Tryz.func99 ?_);repeat' first|(refine aJ mixed dK C ?_)|(with_reducible refine aF (k1 _) oz ?_)|(with_reducible refine aF (k2 _) hve ?_)|(with_reducible refine aF (k3 _) xl ?_)|(with_reducible refine aF (k4 _) vg ?_)|(refine wM ?_;(first|(have _:=ZR)|(have _:=rb;intro ZR)|(have _:=dt;intro rb)|(have _:=du;intro dt)|(have _:=bj;intro du)|(have _:=az;intro bj)|(have _:=ao;intro az)|(have _:=ak;intro ao)|(have _:=ah;intro ak)|(intro ah));intros)|refine wV ?_|(refine wY ?_ ?_<;>intro h)|refine bu @Tryz.f99.eq_1 @ai ?_|exact fk @Tryz.f99.eq_1 @ai|fail
  all_goals try(exfalso;omega)
  all_goals exact .of (aR.drop (aN bt sS)) ⟨_,rfl,rfl,rfl⟩
 ·rw[if_neg he,decide_eq_false he,Bool.not_false] at vg;rw[if_neg he,if_neg he];obtain⟨C,k1,k2,k3,k4⟩:=kw4 183 ⟨[],fun v=>v=.ar [.agg c.c,.bool is],none⟩ 117 ⟨[],fun v=>v=.int .i64 vo,none⟩ 92 ⟨[],fun v=>v=.agg pc.c,none⟩ 184 ⟨[],fun v=>v=.ar [.agg T.c,.bool true],none⟩;have bn:(w.log.map a5).length=w.log.length:=ac _;have wz:=vG T.zc.f;by_cases h4:w.log.length<40
  ·rw[show jG w.log T=w.log++[T] from if_pos h4,show qB w.floor w.log T=w.floor from if_pos h4];refine aA.gh (mB 82 [] Tryz.func99 ?_);repeat' first|(refine aJ mixed dK C ?_)|(with_reducible refine aF (k1 _) oz ?_)|(with_reducible refine aF (k2 _) hve ?_)|(with_reducible refine aF (k3 _) xl ?_)|(with_reducible refine aF (k4 _) vg ?_)|(refine wM ?_;(first|(have _:=ZR)|(have _:=rb;intro ZR)|(have _:=dt;intro rb)|(have _:=du;intro dt)|(have _:=bj;intro du)|(have _:=az;intro bj)|(have _:=ao;intro az)|(have _:=ak;intro ao)|(have _:=ah;intro ak)|(intro ah));intros)|refine wV ?_|(refine wY ?_ ?_<;>intro h)|refine jf @Tryz.f99.eq_1 @ai @bn @wz ?_|exact ZY @Tryz.f99.eq_1 @ai @bn @wz|fail
   all_goals try(exfalso;omega)
   all_goals
    have hnm:(w.log++[T]).map a5=w.log.map a5++[T.c]:=an;have n1:o≠ZR:=bc;refine .step (aR.Cg ZR o (oq:=.row 128 31 (w.log.map a5++[T.c])) (t:=106) (e:=13) (m:=.vec 31 ZR 0 (w.log.length+1)) [U.a,U.b,U.c,U.d,U.e,U.f,U.g,.aj 5 (fl.map ND.c) tf,.int .u32 (mk.toNat:Int),.int .i64 w.floor,.int .i64 seq] [U.h] (m1:=.aj 31 (w.log.map a5++[T.c]) false) sS sS n1 (View.cq cj (by rw[ab,bn];rfl)) rfl) (.of (aR.drop (σ1:=av.set o (gV U fl tf mk { sh:=w.sh,floor:=w.floor,now:=seq,log:=w.log++[T] })) (aN bt (by rw[aD,gV,hnm];rfl))) ⟨_,rfl,rfl,rfl⟩)
  ·obtain⟨t0,L,hL⟩:∃t0 L,w.log=t0::L:=by
    cases h:w.log with
    |nil=>rw[h] at h4;simp at h4
    |cons a b=>exact⟨a,b,rfl⟩
   rw[show jG w.log T=L++[T] by unfold jG;rw[if_neg h4,hL];rfl,show qB w.floor w.log T=t0.sq by unfold qB;rw[if_neg h4,hL];rfl];have tn:L.length+1=w.log.length:=by rw[hL];rfl
   have hmL:(L.map a5).length=L.length:=ac _;have lg:w.log.map a5=t0.c::L.map a5:=by rw[hL,List.map_cons]
   rw[lg] at bn;simp only[gV,lg];refine aA.gh (mB 82 [] Tryz.func99 ?_);repeat' first|(refine aJ mixed dK C ?_)|(with_reducible refine aF (k1 _) oz ?_)|(with_reducible refine aF (k2 _) hve ?_)|(with_reducible refine aF (k3 _) xl ?_)|(with_reducible refine aF (k4 _) vg ?_)|(refine wM ?_;(first|(have _:=ZR)|(have _:=rb;intro ZR)|(have _:=dt;intro rb)|(have _:=du;intro dt)|(have _:=bj;intro du)|(have _:=az;intro bj)|(have _:=ao;intro az)|(have _:=ak;intro ao)|(have _:=ah;intro ak)|(intro ah));intros)|refine wV ?_|(refine wY ?_ ?_<;>intro h)|refine xv @Tryz.f99.eq_1 @ai @bn @hmL @wz @List.cons_append.{0} ?_|exact wC6 @Tryz.f99.eq_1 @ai @bn @hmL @wz @List.cons_append.{0}|fail
   all_goals try(exfalso;omega)
   all_goals
    have hnm:(L++[T]).map a5=L.map a5++[T.c]:=an;have n1:o≠ZR:=bc;have hv:=View.vec (σ:=av.set ZR (.row 128 31 (t0.c::(L.map a5++[T.c])))) (l:=ZR) (lo:=1) (n:=w.log.length) cj (by rw[List.length_cons,ab,hmL];simp only[ad];omega);rw[List.drop_succ_cons,List.drop_zero,List.take_of_length_le (by rw[ab,hmL];simp only[ad];omega)] at hv;refine .step (aR.Cg ZR o (oq:=.row 128 31 (t0.c::(L.map a5++[T.c]))) (t:=106) (e:=13) (m:=.vec 31 ZR 1 w.log.length) [U.a,U.b,U.c,U.d,U.e,U.f,U.g,.aj 5 (fl.map ND.c) tf,.int .u32 (mk.toNat:Int),.int .i64 t0.sq,.int .i64 seq] [U.h] (m1:=.aj 31 (L.map a5++[T.c]) false) ((cn (au n1)).trans cj) cj n1 hv rfl) (.of (aR.drop (σ1:=av.set o (.row 106 13 [[U.a,U.b,U.c,U.d,U.e,U.f,U.g,.aj 5 (fl.map ND.c) tf,.int .u32 (mk.toNat:Int),.int .i64 t0.sq,.int .i64 seq,.aj 31 ((L++[T]).map a5) false,U.h]])) (aN bt (by rw[aD,hnm];rfl))) ⟨_,rfl,rfl,rfl⟩)
def GB(o:Nat)(p q al:MV){B:BK}(hb:dx B){fl:List ND}(hp:bR fl=0)(tf:Bool)(mk:UInt32)(w:VS)(hl:w.log.length≤40)(x:ED) :
  aA Tryz.prog 33 [.ptr o 0 7,.ptr o 0 2,.agg x.c] (av.set o (py p q B fl tf mk w al)) (fun r af=>r=.ar [lp B x,.int .i64 (iv B x)]∧af=av.set o (py p q (fw B x) fl tf mk (k9 fl mk w B (dL B x) (dF B.sq (mb B x))) al)):=by
 refine aA.less (Q':=fun r af=>r=.ar [lp B x,.int .i64 (iv B x)]∧(av.set o (py p q (fw B x) fl tf mk (k9 fl mk w B (dL B x) (dF B.sq (mb B x))) al)).le af) (mB 51 [.tmp 6,.tmp 7] Tryz.func33 ?_) fun r af h=>⟨_,h.2,h.1,rfl⟩
 have Zy:=mO B;have dg:=vF hb x;have uu:=DU ⟨p,q,.aj 5 (fl.map ND.c) tf,.int .u32 (mk.toNat:Int),.int .i64 w.floor,.int .i64 w.now,.aj 31 (w.log.map a5) false,al⟩ o hb x;unfold yr at uu;have hSW:=P5 hb (x:=x);have rk:=zY (x:=x) hb;have hSn:(dL B x).length≤1000:=by
  rw[rk,lL];rcases jN hb x [] with⟨-,e2,-⟩|⟨-,i,e2,-⟩|⟨-,e2,-⟩
  ·rw[e2];simp
  ·rw[e2];simp
  ·have:=mW hb x.gr;rw[e2,ab,ad];omega
 have hVat:∀i pp,(dF B.sq (mb B x))[i]?=some pp→∃Q,lp B x=.aj 2 Q false∧Q.getD i []=[.int .i64 pp.1,.int .i64 pp.2]∧Q.length=(dL B x).length:=fun i pp hp=>by
  by_cases h0:iv B x=0
  ·refine⟨(dF B.sq (mb B x)).map chC,by unfold lp;rw[if_pos h0,FW],bJ (f:=chC) hp,by rw[ac,rk]⟩
  ·have:mb B x=[]:=by
    rcases jN hb x [] with⟨-,e2,-⟩|⟨e1,-⟩|⟨e1,-⟩
    ·exact e2
    ·exact absurd e1 h0
    ·exact absurd e1 h0
   rw[this] at hp;simp[dF] at hp
 obtain⟨S,hS⟩:∃S,dL B x=S:=⟨_,rfl⟩
 obtain⟨P,hP⟩:∃P,dF B.sq (mb B x)=P:=⟨_,rfl⟩
 obtain⟨V,hV⟩:∃V,lp B x=V:=⟨_,rfl⟩
 obtain⟨E,hE⟩:∃E,iv B x=E:=⟨_,rfl⟩
 obtain⟨B',hB'⟩:∃B',fw B x=B':=⟨_,rfl⟩
 rw[hS] at dg hSW rk hSn;rw[hP] at rk;simp only[hS,hP,hV] at hVat;rw[hV,hE,hB'] at uu;rw[hS,hP,hV,hE,hB'];have bn:(S.map BK.c).length=S.length:=ac _;clear hS hP hV hE hB';obtain⟨C,k1⟩:=kw1 19 ⟨[],fun v=>v=.aj 5 (S.map BK.c) false,none⟩;repeat' first|(refine aC Zy ?_)|(refine aJ mixed dK C ?_)|(with_reducible refine aF (k1 _) dg ?_)|(refine cB (o:=py p q B fl tf mk w al) (by simp[aI, *];done) uu ?_)|(refine wM ?_;(first|(have _:=ak)|(have _:=ah;intro ak)|(intro ah));intros)|refine wV ?_|(refine wY ?_ ?_<;>intro h)|refine bu @Tryz.f33.eq_1 @ai ?_|exact fk @Tryz.f33.eq_1 @ai|fail
 all_goals try(exfalso;omega)
 have a1o:ah≠o:=bc;have a2o:ak≠o:=bc;have ao2:=au a2o;clear dg k1 uu Zy;refine aG (α:=Nat) (fun i=>⟨51,[(12,.int .i64 (i:Int)),(11,.int .i64 E),(10,V),(9,.aj 5 (S.map BK.c) false),(8,.ptr ak 0 0),(0,.ptr o 0 7)],[]⟩)
  (fun i=>(av.set o (py p q B' fl tf mk (k9 fl mk w B (S.take i) (P.take i)) al)).set ak (.row 47 5 [((S.take i).getLastD B).c])) (fun i=>i≤S.length) (fun i=>S.length-i) ?_ ?_
 ·refine .of (.less ?_ (σ1:=(av.set o (py p q B' fl tf mk w al)).set ak (.row 47 5 [B.c])) (ni sS sS)) ⟨0,rfl,rfl,Nat.zero_le _⟩;exact wW
 ·intro i hi;have hi:i≤S.length:=hi;by_cases bh:i<S.length
  ·obtain⟨n,hn⟩:=bX S bh;obtain⟨pp,hpp⟩:=bX P (by omega:i<P.length);obtain⟨Q,rfl,ZI,vi⟩:=hVat i pp hpp;have ay:=bJ (f:=BK.c) hn;have hz:=Da (fl:=fl) (mk:=mk) (S.take i) (P.take i) w B hl;have cc:=AK fl mk (S.take i) (P.take i) w B n pp (by rw[am,am,rk]);rw[←aW hn,←aW hpp] at cc;have hgl:(S.take (i+1)).getLastD B=n:=by rw[aW hn];simp
   have hwW:dx ((S.take i).getLastD B):=by
    cases hSt:S.take i with
    |nil=>exact hb
    |cons a b =>
     have ku:(a::b).getLastD B∈a::b:=by
      rw[ag];cases b with
      |nil=>exact List.mem_cons_self ..
      |cons c d=>rw[ag];exact List.mem_cons_of_mem _ (by rw[←ag (a:=a)];exact List.getLast_mem ax)
     rw[←hSt] at ku ⊢;exact hSW _ (List.mem_of_mem_take ku)
   obtain⟨W,hW⟩:∃W,(S.take i).getLastD B=W:=⟨_,rfl⟩
   obtain⟨z,hze⟩:∃z,k9 fl mk w B (S.take i) (P.take i)=z:=⟨_,rfl⟩
   rw[hze] at hz cc ⊢;rw[hW] at cc hwW ⊢;have hstp:=GD ⟨p,q,.int .i64 B'.sq,.int .i64 B'.nx,.aj 27 (B'.ae.map CA.c) false,.aj 3 (B'.dead.map DE.c) false,.aj 2 (B'.gr.map GR.c) false,al⟩ o hwW (hSW n (List.mem_of_getElem? hn)) hp tf mk z oM pp.1 pp.2;obtain⟨K,hK,c1⟩:∃K:b9,pq (.dz [99]) K∧∀ms,K 99 ms=some ⟨[o],fun _=>True,some ([py p q B' fl tf mk (qC W n fl mk z pp.1 pp.2) al],fun _=>.ar [])⟩ :=
    ⟨nu [(99,⟨[o],fun _=>True,some ([py p q B' fl tf mk (qC W n fl mk z pp.1 pp.2) al],fun _=>.ar [])⟩)],gZ,fun _=>cH⟩
   obtain⟨z2,qb⟩:∃z2,qC W n fl mk z pp.1 pp.2=z2:=⟨_,rfl⟩
   rw[qb] at cc hstp c1;clear hVat hSW hwW hz;repeat' first|(refine bP mixed [99] dK K hK ?_)|(refine cZ (o:=py p q B' fl tf mk z al) (c1 _) sS hstp ?_)|(refine wM ?_;(first|(have _:=ak)|(have _:=ah;intro ak)|(intro ah));intros)|refine wV ?_|(refine wY ?_ ?_<;>intro h)|refine wZ5 @ai @ay @ZI @vi @bn ?_|exact wC5 @ai @ay @ZI @vi @bn|fail
   all_goals try(exfalso;omega)
   all_goals
    refine .of (.less ?_ (σ1:=(av.set o (py p q B' fl tf mk z2 al)).set ak (.row 47 5 [n.c])) (ni sS sS)) ⟨i+1,rfl,by rw[cc,hgl],(by omega:i+1≤S.length),oM⟩;exact wW
  ·obtain rfl:i=S.length:=oM;rw[List.take_length,rk,List.take_length];repeat' first|(refine wM ?_;(first|(have _:=ak)|(have _:=ah;intro ak)|(intro ah));intros)|refine wV ?_|(refine wY ?_ ?_<;>intro h)|refine bu @ai @bn ?_|exact fk @ai @bn|fail
   all_goals first|exact⟨rfl,aN bt sS⟩|exact aN bt sS
def P6{W:BK}(hW:dx W)(e:ED):(dL W e).length≤1000:=by
 rw[zY hW,lL];rcases jN hW e [] with⟨-,e2,-⟩|⟨-,i,e2,-⟩|⟨-,e2,-⟩
 ·rw[e2];simp
 ·rw[e2];simp
 ·have:=mW hW e.gr;rw[e2,ab,ad];omega
def rO(t:TO)(aq:Int):Bool:=!lM t || decide (aq<1) || decide (16<aq)
def Jv(W:List CA)(z:VS)(t:TO)(aq:Int):PG :=
 if (eS z.log t.sq z.now t.cu aq).2=z.now∧t.cu<1073741824∧((eS z.log t.sq z.now t.cu aq).1.length:Int)<aq then
  ⟨0,false,t,⟨t.dev,t.ep,(eS z.log t.sq z.now t.cu aq).2,(eU W t.cu (aq-((eS z.log t.sq z.now t.cu aq).1.length:Int))).2⟩,(eS z.log t.sq z.now t.cu aq).1++jw (eU W t.cu (aq-((eS z.log t.sq z.now t.cu aq).1.length:Int))).1⟩
 else⟨0,false,t,⟨t.dev,t.ep,(eS z.log t.sq z.now t.cu aq).2,t.cu⟩,(eS z.log t.sq z.now t.cu aq).1⟩
def oI(W:List CA)(z:VS)(ep:Int)(t:TO)(aq:Int):PG :=
 if rO t aq=true then⟨1,false,t,ui,[]⟩
 else if t.sq<z.floor∨z.now<t.sq∨t.ep≠ep then⟨0,true,t,⟨t.dev,ep,z.now,0⟩,[]⟩
 else Jv W z t aq
def Gm(t:TO)(aq:Int):PG:=⟨if rO t aq=true then 1 else 6,false,t,ui,[]⟩
def Fv(a b c:Int):aA Tryz.prog 121 [.int .i64 a,.int .i64 b,.int .i64 c] av (fun r _=>r=.agg (TO.c ⟨a,b,c,0⟩)):=by
 refine aA.bV (mB 11 [.cell 6 103] Tryz.func121 ?_);repeat' first|(refine wO ?_;intros)|(refine wY ?_ ?_<;>intro h)|refine aw @Tryz.f121.eq_1 ?_|exact ev @Tryz.f121.eq_1|fail
 all_goals exact lE
def wQ(t:TO)(h:lM t=true):aA Tryz.prog 123 [.agg t.c] av (fun r _=>r=.bool (decide (t.cu=1073741824))):=by
 refine aA.bV (mB 10 [.tmp 2] Tryz.func123 ?_);have hc:=wP t;rw[h] at hc;by_cases he:t.cu=1073741824
 ·obtain⟨a,b,c,d⟩:=t;simp only at he;subst he;repeat' first|(refine aC hc ?_)|(refine wO ?_;intros)|(refine wY ?_ ?_<;>intro h)|refine bu @Tryz.f123.eq_1 @ai ?_|exact fk @Tryz.f123.eq_1 @ai|fail
  all_goals first|exact⟨_,ba,rfl⟩|exact⟨_,ba⟩|exact⟨_,rfl⟩
 ·rw[decide_eq_false he];repeat' first|(refine aC hc ?_)|(refine wO ?_;intros)|(refine wY ?_ ?_<;>intro h)|refine fx @Tryz.f123.eq_1 @ai @he ?_|exact tk @Tryz.f123.eq_1 @ai @he|fail
  all_goals first|exact⟨_,ba,rfl⟩|exact⟨_,ba⟩|exact⟨_,rfl⟩
def vc(no:Bool)(v:Nat):MV:=if no=true then .ej else .ptr v 0 0
abbrev xq(p:PG)(zu:MV):aY:=.row 109 11 [p.k zu]
def Bn{nt np nP nv:Nat}(h1:np≠nt)(h2:nP≠nt)(h3:nP≠np)(h4:nv≠nt)(h5:nv≠np)(h6:nv≠nP)(t:TO)(aq:Int)(no:Bool)(v:Nat) :
  aA Tryz.prog 118 [.ptr nt 0 0,.ptr np 0 0,.ptr nP 0 0,.ptr nv 0 0] ((((av.set nt (.row 103 4 [t.c])).set np (.row 3 1 [[.int .i64 aq]])).set nv (.row 44 1 [[vc no v]])).set nP (xq ⟨0,false,t,ui,[]⟩ .aK))
   (fun r af=>r=.bool (rO t aq || no)∧af=(((av.set nt (.row 103 4 [t.c])).set np (.row 3 1 [[.int .i64 aq]])).set nv (.row 44 1 [[vc no v]])).set nP (xq ⟨if rO t aq=true then 1 else if no=true then 6 else 0,false,t,ui,[]⟩ .aK)):=by
 refine aA.less (Q':=fun r af=>r=.bool (rO t aq || no)∧((((av.set nt (.row 103 4 [t.c])).set np (.row 3 1 [[.int .i64 aq]])).set nv (.row 44 1 [[vc no v]])).set nP (xq ⟨if rO t aq=true then 1 else if no=true then 6 else 0,false,t,ui,[]⟩ .aK)).le af) (mB 25 [.tmp 4] Tryz.func118 ?_) fun r af h=>⟨_,h.2,h.1,rfl⟩
 have hc:=wP t;have n1:=au h1;have n2:=au h2;have n3:=au h3;have n4:=au h4;have n5:=au h5;have n6:=au h6;obtain⟨ok,cm⟩:∃ok,lM t=ok:=⟨_,rfl⟩
 unfold rO;rw[cm] at hc ⊢;cases ok
 ·repeat' first|(refine aC hc ?_)|(refine wO ?_;intros)|(refine wY ?_ ?_<;>intro h)|refine bu @Tryz.f118.eq_1 @ai ?_|exact fk @Tryz.f118.eq_1 @ai|fail
  all_goals try(exfalso;omega)
  all_goals exact⟨rfl,ba⟩
 ·by_cases p1:aq<1
  ·repeat' first|(refine aC hc ?_)|(refine wO ?_;intros)|(refine wY ?_ ?_<;>intro h)|refine bu @Tryz.f118.eq_1 @ai ?_|exact fk @Tryz.f118.eq_1 @ai|fail
   all_goals try(exfalso;omega)
   all_goals exact⟨by simp[p1],by simp[p1];exact ba⟩
  ·by_cases p2:16<aq
   ·repeat' first|(refine aC hc ?_)|(refine wO ?_;intros)|(refine wY ?_ ?_<;>intro h)|refine bu @Tryz.f118.eq_1 @ai ?_|exact fk @Tryz.f118.eq_1 @ai|fail
    all_goals try(exfalso;omega)
    all_goals exact⟨by simp[p1,p2],by simp[p1,p2];exact ba⟩
   ·unfold vc;cases no
    ·repeat' first|(refine aC hc ?_)|(refine wO ?_;intros)|(refine wY ?_ ?_<;>intro h)|refine bu @Tryz.f118.eq_1 @ai ?_|exact fk @Tryz.f118.eq_1 @ai|fail
     all_goals try(exfalso;omega)
     all_goals exact⟨by simp[p1,p2],by simp[p1,p2];exact ba⟩
    ·repeat' first|(refine aC hc ?_)|(refine wO ?_;intros)|(refine wY ?_ ?_<;>intro h)|refine bu @Tryz.f118.eq_1 @ai ?_|exact fk @Tryz.f118.eq_1 @ai|fail
     all_goals try(exfalso;omega)
     all_goals exact⟨by simp[p1,p2],by simp[p1,p2];exact ba⟩
def BA{t:TO}{aq:Int}(h:rO t aq=false):lM t=true∧1≤aq∧aq≤16:=by unfold rO at h;simp only[Bool.or_eq_false_iff,decide_eq_false_iff_not,Bool.not_eq_false'] at h;exact⟨h.1.1,oM,oM⟩
def FB{B:BK}(hb:BkR B)(h3:B.gr.length≤1000000)(h4:∀g,g∈B.gr→g.mem.length≤1000000){fl:List ND}(hp:bR fl=0)(tf:Bool)(mk:UInt32)(w:VS)(hl:w.log.length≤1000)(hT:∀t,t∈w.log→TOk t)(hq:∀t,t∈w.log→1≤t.sq∧t.sq≤1099511627776)(ep:Int)(t:TO)(aq:Int) :
  aA Tryz.prog 52 [.agg B.c,.agg (dvC fl tf mk w),.bool false,.int .i64 ep,.agg t.c,.int .i64 aq] av (fun r _=>r=.agg (oI (bY B fl mk 1073741824) w ep t aq).c):=by
 refine aA.seen (mB 115 [.cell 12 109] Tryz.func52 ?_);have hk:=xC t;obtain⟨ok,cm⟩:∃ok,lM t=ok:=⟨_,rfl⟩
 rw[cm] at hk;by_cases hr:rO t aq=true
 ·have e:oI (bY B fl mk 1073741824) w ep t aq=⟨1,false,t,ui,[]⟩:=if_pos hr;rw[e];unfold rO at hr;rw[cm] at hr;clear e;cases ok
  ·repeat' first|(refine aC hk ?_)|(refine wO ?_;intros)|(refine wY ?_ ?_<;>intro h)|refine bu @Tryz.f52.eq_1 @ai ?_|exact fk @Tryz.f52.eq_1 @ai|fail
   all_goals try(exfalso;omega)
   all_goals exact zw (p:=⟨1,false,t,ui,[]⟩) (.nil _ _)
  ·have hpg:aq<1∨16<aq:=by simpa using hr
   by_cases p1:aq<1
   ·repeat' first|(refine aC hk ?_)|(refine wO ?_;intros)|(refine wY ?_ ?_<;>intro h)|refine bu @Tryz.f52.eq_1 @ai ?_|exact fk @Tryz.f52.eq_1 @ai|fail
    all_goals try(exfalso;omega)
    all_goals exact zw (p:=⟨1,false,t,ui,[]⟩) (.nil _ _)
   ·have p2:16<aq:=hpg.resolve_left p1;clear hpg;repeat' first|(refine aC hk ?_)|(refine wO ?_;intros)|(refine wY ?_ ?_<;>intro h)|refine bu @Tryz.f52.eq_1 @ai ?_|exact fk @Tryz.f52.eq_1 @ai|fail
    all_goals try(exfalso;omega)
    all_goals exact zw (p:=⟨1,false,t,ui,[]⟩) (.nil _ _)
 ·have e:oI (bY B fl mk 1073741824) w ep t aq=if t.sq<w.floor∨w.now<t.sq∨t.ep≠ep then⟨0,true,t,⟨t.dev,ep,w.now,0⟩,[]⟩ else Jv (bY B fl mk 1073741824) w t aq:=if_neg hr;rw[e];obtain⟨r1,r2,r3⟩:=BA (by simpa using hr);rw[cm] at r1;subst r1;clear e hr;have hd:=GA fl tf mk w oM hT hq t.sq t.cu aq;by_cases tq:t.sq<w.floor∨w.now<t.sq∨t.ep≠ep
  ·rw[if_pos tq];by_cases hc:t.sq<w.floor∨w.now<t.sq
   ·rw[if_pos hc] at hd;by_cases hep:t.ep=ep
    ·subst hep;repeat' first|(refine aC hk ?_)|(refine aC hd ?_)|(refine wO ?_;intros)|(refine wY ?_ ?_<;>intro h)|refine bu @Tryz.f52.eq_1 @ai ?_|exact fk @Tryz.f52.eq_1 @ai|fail
     all_goals try(exfalso;omega)
     all_goals exact zw (p:=⟨0,true,t,⟨t.dev,t.ep,w.now,0⟩,[]⟩) (.nil _ _)
    ·repeat' first|(refine aC hk ?_)|(refine aC hd ?_)|(refine wO ?_;intros)|(refine wY ?_ ?_<;>intro h)|refine bu @Tryz.f52.eq_1 @ai ?_|exact fk @Tryz.f52.eq_1 @ai|fail
     all_goals try(exfalso;omega)
     all_goals exact zw (p:=⟨0,true,t,⟨t.dev,ep,w.now,0⟩,[]⟩) (.nil _ _)
   ·rw[if_neg hc] at hd;have hep:t.ep≠ep:=oM;obtain⟨⟨X,wg⟩,hX⟩:∃X,eS w.log t.sq w.now t.cu aq=X:=⟨_,rfl⟩
    rw[hX] at hd;simp only at hd;clear tq hc;repeat' first|(refine aC hk ?_)|(refine aC hd ?_)|(refine wO ?_;intros)|(refine wY ?_ ?_<;>intro h)|refine bu @Tryz.f52.eq_1 @ai ?_|exact fk @Tryz.f52.eq_1 @ai|fail
    all_goals try(exfalso;omega)
    all_goals exact zw (p:=⟨0,true,t,⟨t.dev,ep,w.now,0⟩,[]⟩) (.nil _ _)
  ·rw[if_neg tq];rw[if_neg oM] at hd;have hep:t.ep=ep:=oM;subst hep;have jv:=fun room=>Lt B hb h3 h4 fl hp tf mk t.cu room;have hXl:(eS w.log t.sq w.now t.cu aq).1.length≤1000:=by unfold eS vE;have q1:=vV ((lj w.log t.sq w.now t.cu).take (lP (lj w.log t.sq w.now t.cu) (ZS aq) (lj w.log t.sq w.now t.cu).length));have q2:=oS ((lj w.log t.sq w.now t.cu).take (lP (lj w.log t.sq w.now t.cu) (ZS aq) (lj w.log t.sq w.now t.cu).length));have q3:=xO w.log t.sq w.now t.cu;rw[am] at q2;simp only;omega
   unfold Jv;obtain⟨⟨X,wg⟩,hX⟩:∃X,eS w.log t.sq w.now t.cu aq=X:=⟨_,rfl⟩
   rw[hX] at hd hXl ⊢;simp only at hd hXl ⊢;have bn:(X.map IT.k).length=X.length:=ac _;clear tq;by_cases g1:wg=w.now
   ·subst g1;by_cases g2:t.cu<1073741824
    ·by_cases g3:(X.length:Int)<aq
     ·rw[if_pos ⟨rfl,g2,g3⟩];have hcf:=jv (aq-X.length);have hWl:(bY B fl mk 1073741824).length≤48:=by unfold bY;rw[ac];exact Nat.le_trans (ap _ _) hb.nc
      have iw:=AO (W:=bY B fl mk 1073741824) t.cu (aq-X.length);obtain⟨⟨Y,at_⟩,hY⟩:∃Y,eU (bY B fl mk 1073741824) t.cu (aq-X.length)=Y:=⟨_,rfl⟩
      rw[hY] at hcf iw ⊢;simp only at hcf iw ⊢;have mz:=qY Y;have zd:IT.ks (X++jw Y)=X.map IT.k++IT.ks (jw Y):=an;obtain⟨I,hI⟩:∃I,IT.ks (jw Y)=I:=⟨_,rfl⟩
      obtain⟨L,hL⟩:∃L,X.map IT.k=L:=⟨_,rfl⟩
      rw[hI] at hcf mz zd;rw[hL] at hd bn zd;clear jv;repeat' first|(refine aC hk ?_)|(refine aC hd ?_)|(refine aC hcf ?_)|(refine wO ?_;intros)|(refine wY ?_ ?_<;>intro h)|refine jf @Tryz.f52.eq_1 @ai @bn @mz ?_|exact ZY @Tryz.f52.eq_1 @ai @bn @mz|fail
      all_goals try(exfalso;omega)
      all_goals
       refine zw (p:=⟨0,false,t,⟨t.dev,t.ep,w.now,at_⟩,X++jw Y⟩) ?_;rw[zd];exact View.cq cj (by rw[ab,bn,mz])
     ·rw[if_neg oM];clear jv;repeat' first|(refine aC hk ?_)|(refine aC hd ?_)|(refine wO ?_;intros)|(refine wY ?_ ?_<;>intro h)|refine fx @Tryz.f52.eq_1 @ai @bn ?_|exact tk @Tryz.f52.eq_1 @ai @bn|fail
      all_goals try(exfalso;omega)
      all_goals exact zw (p:=⟨0,false,t,⟨t.dev,t.ep,w.now,t.cu⟩,X⟩) (.same _)
    ·rw[if_neg oM];clear jv;repeat' first|(refine aC hk ?_)|(refine aC hd ?_)|(refine wO ?_;intros)|(refine wY ?_ ?_<;>intro h)|refine fx @Tryz.f52.eq_1 @ai @bn ?_|exact tk @Tryz.f52.eq_1 @ai @bn|fail
     all_goals try(exfalso;omega)
     all_goals exact zw (p:=⟨0,false,t,⟨t.dev,t.ep,w.now,t.cu⟩,X⟩) (.same _)
   ·rw[if_neg oM];clear jv;repeat' first|(refine aC hk ?_)|(refine aC hd ?_)|(refine wO ?_;intros)|(refine wY ?_ ?_<;>intro h)|refine fx @Tryz.f52.eq_1 @ai @bn ?_|exact tk @Tryz.f52.eq_1 @ai @bn|fail
    all_goals try(exfalso;omega)
    all_goals exact zw (p:=⟨0,false,t,⟨t.dev,t.ep,wg,t.cu⟩,X⟩) (.same _)
def CO(ep:Int)(t:TO)(aq:Int):aA Tryz.prog 52 [.agg [.int .i64 0,.int .i64 0,.aK,.aK,.aK],.agg [.aK,.int .u32 0,.int .i64 0,.int .i64 0,.aK],.bool true,.int .i64 ep,.agg t.c,.int .i64 aq] av (fun r _=>r=.agg (Gm t aq).c):=by
 refine aA.seen (mB 115 [.cell 12 109] Tryz.func52 ?_);have hk:=xC t;obtain⟨ok,cm⟩:∃ok,lM t=ok:=⟨_,rfl⟩
 unfold Gm rO;rw[cm] at hk ⊢;cases ok
 ·repeat' first|(refine aC hk ?_)|(refine wO ?_;intros)|(refine wY ?_ ?_<;>intro h)|refine bu @Tryz.f52.eq_1 @ai ?_|exact fk @Tryz.f52.eq_1 @ai|fail
  all_goals try(exfalso;omega)
  all_goals exact zw (p:=⟨1,false,t,ui,[]⟩) (.nil _ _)
 ·by_cases p1:aq<1
  ·rw[decide_eq_true p1];repeat' first|(refine aC hk ?_)|(refine wO ?_;intros)|(refine wY ?_ ?_<;>intro h)|refine bu @Tryz.f52.eq_1 @ai ?_|exact fk @Tryz.f52.eq_1 @ai|fail
   all_goals try(exfalso;omega)
   all_goals exact zw (p:=⟨1,false,t,ui,[]⟩) (.nil _ _)
  ·by_cases p2:16<aq
   ·rw[decide_eq_true p2,Bool.or_true];repeat' first|(refine aC hk ?_)|(refine wO ?_;intros)|(refine wY ?_ ?_<;>intro h)|refine bu @Tryz.f52.eq_1 @ai ?_|exact fk @Tryz.f52.eq_1 @ai|fail
    all_goals try(exfalso;omega)
    all_goals exact zw (p:=⟨1,false,t,ui,[]⟩) (.nil _ _)
   ·rw[decide_eq_false p1,decide_eq_false p2];repeat' first|(refine aC hk ?_)|(refine wO ?_;intros)|(refine wY ?_ ?_<;>intro h)|refine bu @Tryz.f52.eq_1 @ai ?_|exact fk @Tryz.f52.eq_1 @ai|fail
    all_goals try(exfalso;omega)
    all_goals exact zw (p:=⟨6,false,t,ui,[]⟩) (.nil _ _)
def Q1{B:BK}(hb:dx B)(fl:List ND)(mk:UInt32)(cur:Int):(bY B fl mk cur).length≤48:=by unfold bY;rw[ac];exact Nat.le_trans (ap _ _) hb.nc
section
open Go.ChangeShapes Go.WideShapes Go.RowKit
def EC{P:Program}{f:FuncId}{fn:Func}{s:ChangeSpec}{c:OpenClaim}(h1:c.wf (OpenSpec.ofChange s)=true)(h2:laidOutB P=true)(h3:mapsRowed P=true)(h4:fn.params.all (P.readableRec ·)=true)(h5:namedTie P c.named s.vars=true)
 (h6:(c.stops==[])=true)(h7:(P.stops==[])=true)(h8:(c.knobs==[])=true)(h9:(P.stopKnobs==[])=true)(h10:(c.inPlace==P.inPlace f)=true)(h11:(c.unfollowed==P.unfollowed f)=true)(h12:(c.recurses==P.recurses f)=true)(h13:(c.named==P.varsNamed f)=true)
 (h14:(c.maps==(fn.params.toList++s.plain.varTypes P).any (P.mapsRec ·))=true)(h15:(c.ifaces==(fn.params.toList++s.plain.varTypes P).any (P.ifacesRec ·))=true)(h16:(c.mapsOut==P.mapsAmong fn.resultTypes.toList)=true)
 (h17:(c.loops==(fn.params.toList++s.plain.varTypes P).any (P.loopsFrom ·))=true)(h18:(c.wideKeys==(fn.params.toList++s.plain.varTypes P++fn.resultTypes.toList).any (P.wideKeysFrom ·))=true)
 (h19:s.vars.all (P.varReadable ·)=true)(h20:fn.resultTypes.all (fun t=>P.readableRec t&&decide (t<P.types.size))=true)(h21:(c.ifacesOut==fn.resultTypes.toList.any (P.ifacesRec ·))=true)(h22:(c.loopsOut==fn.resultTypes.toList.any (P.loopsFrom ·))=true)
 (h23:(c.plainKeys==P.plainKeys)=true)(h24:c.shortTexts.isNone=true)(h25:P.stopsHeard=true)(h26:P.mayEnter=true)(h27:(c.lifted==P.liftsFinal)=true)(h28:(P.make==some c.make)=true)
 (hd:c.domain.isEmpty=true)(h29:(c.kinds==[])=true)(h30:(c.pinned==c.pinnedBy)=true)
 (h31:(c.veiled==(fn.params.toList++s.plain.varTypes P++fn.resultTypes.toList).any (P.veiledRec ·))=true)(h32:c.veiledFits P fn.params.toList (fn.params.toList++s.plain.varTypes P++fn.resultTypes.toList)=true):joinedFacts P f fn s c=true:=by unfold joinedFacts;rw[h1,h2,h3,h4,h5,h6,h7,h8,h9,h10,h11,h12,h13,h14,h15,h16,h17,h18,h19,h20,h21,h22,h23,h24,h25,h26,h27,h28,h30,h31,h32];simp only[hd,if_true,h29,Bool.and_true,Bool.and_self]
noncomputable abbrev PC:Program:=Tryz.pinned.checked.prog
def UG:laidOutB PC=true:=by kernel_rfl
def UJ:mapsRowed PC=true:=by kernel_rfl
def Rn:(PC.stops==[])=true:=by kernel_rfl
def Ri:(PC.stopKnobs==[])=true:=by kernel_rfl
def UF:(Rows.viewNoneRow.plainKeys==PC.plainKeys)=true:=by kernel_rfl
def Rj:(Rows.viewNoneRow.lifted==PC.liftsFinal)=true:=by kernel_rfl
def UI:(PC.make==some Rows.viewNoneRow.make)=true:=by kernel_rfl
def Rh:PC.stopsHeard=true:=by kernel_rfl
end
section
open Go.ChangeShapes Go.WideShapes Go.RowKit
def Oa:(Rows.pullAnswersRow.inPlace==PC.inPlace 7)=true:=by kernel_rfl
def A0:(Rows.pullAnswersRow.unfollowed==PC.unfollowed 7)=true:=by kernel_rfl
def EI:(Rows.pullAnswersRow.recurses==PC.recurses 7)=true:=by kernel_rfl
def N9:(Rows.pullAnswersRow.named==PC.varsNamed 7)=true:=by kernel_rfl
def Hh:PC.funcNamed "offprint/offprintlaw28.PullAnswers" = some 7:=by kernel_rfl
end
