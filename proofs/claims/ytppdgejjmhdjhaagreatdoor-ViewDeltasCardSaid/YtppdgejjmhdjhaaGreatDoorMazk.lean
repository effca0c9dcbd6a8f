/- Parts of the proof; conditions: as its theorems name them. -/
import Derived.Test.YtppdgejjmhdjhaaGreatDoorMazi
import Derived.Test.YtppdgejjmhdjhaaGreatDoorMazj
set_option linter.unusedVariables false
set_option linter.unusedSimpArgs false
set_option maxHeartbeats 8000000
set_option maxRecDepth 100000
namespace Go.Proofs.YtppdgejjmhdjhaaGreatDoor
noncomputable abbrev dS(m l q b:Nat)(B:BK)(f:Nat)(fl:List ND)(d:Bool)(sm g v:Nat)(mk:UInt32)(z:VS)(ex:List (List MV))(n1 n2 n3 r:Nat)(X Y:aT)(al:List BK)(exA:List (List MV)):St:=((((vwS m l q b B f fl d sm g v mk z ex).set n1 X).set n2 Y).set n3 (dO B)).set r (.row 47 5 (al.map BK.c++exA))
theorem OJ{W:BK}(hW:BkW W)(e:ED):(cJ W e).length≤1000:=by
 rw[HX hW,l8]
 rcases iV hW e [] with⟨-,e2,-⟩|⟨-,i,e2,-⟩|⟨-,e2,-⟩
 ·rw[e2];simp
 ·rw[e2];simp
 ·have:=pU hW e.gr
  rw[e2,List.length_append,List.length_singleton];omega
theorem xC(x:RU)(a b c t:Int):aA Tryz.prog 3 [.agg x.c,.agg [.int .i64 a,.int .i64 b,.int .i64 c,.int .i64 t]] St.none (fun r _=>r=.bool true):=by
 refine aA.bS (mB 205 [.tmp 4] Tryz.func3 ?_)
 have hsk:=Kg x
 have haw:=Dg
 obtain⟨sk,hsk'⟩:∃z,(oE x.fl || lV x.pre || lV x.post)=z:=⟨_,rfl⟩
 rw[hsk'] at hsk
 cases sk
 rotate_left
 ·repeat' first|(refine aC hsk ?_)|(refine aC haw ?_)|(refine wM ?_;(first|(have _:=nl5)|(have _:=nl4;intro nl5)|(have _:=nl3;intro nl4)|(have _:=nl2;intro nl3)|(have _:=nl1;intro nl2)|(intro nl1));intros)|refine wV ?_|(refine wY ?_ ?_<;>intro h)|refine wZ4 @Tryz.f3.eq_1 @FXs @List.map_cons.{0,0} @List.map_nil.{0,0} ?_|exact wC4 @Tryz.f3.eq_1 @FXs @List.map_cons.{0,0} @List.map_nil.{0,0}|fail
  all_goals exact lE
 ·simp only[Bool.or_eq_false_iff] at hsk'
  obtain⟨⟨k1,k2⟩,k3⟩:=hsk'
  have hfl:x.fl.length≤1000:=by unfold oE at k1;simp only[Bool.or_eq_false_iff,decide_eq_false_iff_not] at k1;omega
  have hpre:x.pre.length≤120:=by unfold lV at k2;simp only[Bool.or_eq_false_iff,decide_eq_false_iff_not] at k2;omega
  have hpost:x.post.length≤120:=by unfold lV at k3;simp only[Bool.or_eq_false_iff,decide_eq_false_iff_not] at k3;omega
  clear k1 k2 k3
  have hpc:=EH x.fl false
  have hmc:=uF x.mask
  by_cases hpe:cR x.fl=0
  rotate_left
  ·repeat' first|(refine aC hsk ?_)|(refine aC hpc ?_)|(refine aC haw ?_)|(refine wM ?_;(first|(have _:=nl5)|(have _:=nl4;intro nl5)|(have _:=nl3;intro nl4)|(have _:=nl2;intro nl3)|(have _:=nl1;intro nl2)|(intro nl1));intros)|refine wV ?_|(refine wY ?_ ?_<;>intro h)|refine wZ4 @Tryz.f3.eq_1 @FXs @List.map_cons.{0,0} @List.map_nil.{0,0} ?_|exact wC4 @Tryz.f3.eq_1 @FXs @List.map_cons.{0,0} @List.map_nil.{0,0}|fail
   all_goals exact lE
  rw[hpe] at hpc
  by_cases hmk:x.mask.toNat≤511
  rotate_left
  ·rw[decide_eq_false hmk] at hmc
   repeat' first|(refine aC hsk ?_)|(refine aC hpc ?_)|(refine aC hmc ?_)|(refine aC haw ?_)|(refine wM ?_;(first|(have _:=nl5)|(have _:=nl4;intro nl5)|(have _:=nl3;intro nl4)|(have _:=nl2;intro nl3)|(have _:=nl1;intro nl2)|(intro nl1));intros)|refine wV ?_|(refine wY ?_ ?_<;>intro h)|refine wZ4 @Tryz.f3.eq_1 @FXs @List.map_cons.{0,0} @List.map_nil.{0,0} ?_|exact wC4 @Tryz.f3.eq_1 @FXs @List.map_cons.{0,0} @List.map_nil.{0,0}|fail
   all_goals exact lE
  rw[decide_eq_true hmk] at hmc
  have hbeg:=E8 x.pre oM false
  have hB0:=Uf Wr x.pre
  obtain⟨B0,hB0e⟩:∃B0,mD bk1 x.pre=B0:=⟨_,rfl⟩
  rw[hB0e] at hbeg hB0
  repeat' first|(refine aC hsk ?_)|(refine aC hpc ?_)|(refine aC hmc ?_)|(refine wM ?_;(first|(have _:=nl5)|(have _:=nl4;intro nl5)|(have _:=nl3;intro nl4)|(have _:=nl2;intro nl3)|(have _:=nl1;intro nl2)|(intro nl1));intros)|refine wV ?_|(refine wY ?_ ?_<;>intro h)|refine wZ4 @Tryz.f3.eq_1 @FXs @List.map_cons.{0,0} @List.map_nil.{0,0} ?_|exact wC4 @Tryz.f3.eq_1 @FXs @List.map_cons.{0,0} @List.map_nil.{0,0}|fail
  refine uY (St.none_le _) hbeg ?_
  rintro _ τ' τ ⟨m,l,q,bb,D,rfl,rfl⟩ hle hfr
  obtain⟨x1,y1⟩:=hfr nl1 _ (by simp[St.set, *];rfl) rfl
  obtain⟨x2,y2⟩:=hfr nl2 _ (by simp[St.set, *];rfl) rfl
  simp only[aV] at y1 y2
  clear hfr
  repeat' first|(refine wM ?_;(first|(have _:=nl5)|(have _:=nl4;intro nl5)|(have _:=nl3;intro nl4)|(have _:=nl2;intro nl3)|(have _:=nl1;intro nl2)|(intro nl1));intros)|refine wV ?_|(refine wY ?_ ?_<;>intro h)|refine wZ5 @FXs @x1 @x2 @List.map_cons.{0,0} @List.map_nil.{0,0} ?_|exact wC5 @FXs @x1 @x2 @List.map_cons.{0,0} @List.map_nil.{0,0}|fail
  have hn3:τ nl3=none:=by assumption
  have n31:nl3≠nl1:=fun e=>by rw[e,x1] at hn3;cases hn3
  have n32:nl3≠nl2:=fun e=>by rw[e,x2] at hn3;cases hn3
  have n13:=Ne.symm n31
  have n23:=Ne.symm n32
  have hgl:B0.gr.length≤1000000:=by have:=hB0.ng;omega
  have hgm:∀g,g∈B0.gr→g.mem.length≤1000000:=fun g hg=>by have:=hB0.nm g hg;omega
  have hvn:=xU hB0.toBkR hgl hgm D hpe false hmk
  have hbn:∀{j:Nat},τ j=none→bkS m l q bb B0 [] j=none:=fun {j} hj=>by
   cases hc:bkS m l q bb B0 [] j with
   | none=>rfl
   | some o=>rw[hle j o hc] at hj;cases hj
  have y3:=hbn hn3
  simp only[aV] at y3
  repeat' first|(refine wM ?_;(first|(have _:=nl5)|(have _:=nl4;intro nl5)|(have _:=nl3;intro nl4)|(have _:=nl2;intro nl3)|(have _:=nl1;intro nl2)|(intro nl1));intros)|refine wV ?_|(refine wY ?_ ?_<;>intro h)|refine wZ5 @FXs @x1 @x2 @List.map_cons.{0,0} @List.map_nil.{0,0} ?_|exact wC5 @FXs @x1 @x2 @List.map_cons.{0,0} @List.map_nil.{0,0}|fail
  refine uY (eP hle (hbn hn3)) hvn ?_
  rintro _ τ' τ2 ⟨f,sm,g,v,d,V,rfl,rfl⟩ hle2 hfr2
  have v0:=SB hB0 x.fl
  obtain⟨z0,hz0⟩:∃z0:VS,(⟨shV (shC B0 x.fl),B0.sq,B0.sq,[]⟩:VS)=z0:=⟨_,rfl⟩
  have z0l:z0.log=[]∧z0.floor=B0.sq∧z0.now=B0.sq:=by rw[←hz0];exact⟨rfl,rfl,rfl⟩
  rw[hz0] at v0 hle2 hfr2
  obtain⟨w1,u1⟩:=hfr2 nl1 _ ((aG _ _ _ _ n13).trans x1) (by simp only[aV];exact y1)
  obtain⟨w2,u2⟩:=hfr2 nl2 _ ((aG _ _ _ _ n23).trans x2) (by simp only[aV];exact y2)
  obtain⟨w3,u3⟩:=hfr2 nl3 _ (aD _ _ _) (by simp only[aV];exact y3)
  clear hfr2 hle x1 x2
  have hd0:=r7 B0
  repeat' first|(refine aC hd0 ?_)|(refine wM ?_;(first|(have _:=nl5)|(have _:=nl4;intro nl5)|(have _:=nl3;intro nl4)|(have _:=nl2;intro nl3)|(have _:=nl1;intro nl2)|(intro nl1));intros)|refine wV ?_|(refine wY ?_ ?_<;>intro h)|refine wZ6 @FXs @w1 @w2 @w3 @List.map_cons.{0,0} @List.map_nil.{0,0} ?_|exact wC6 @FXs @w1 @w2 @w3 @List.map_cons.{0,0} @List.map_nil.{0,0}|fail
  all_goals (try (exfalso;omega))
  have hn4:τ2 nl4=none:=by assumption
  have n41:nl4≠nl1:=fun e=>by rw[e,w1] at hn4;cases hn4
  have n42:nl4≠nl2:=fun e=>by rw[e,w2] at hn4;cases hn4
  have n43:nl4≠nl3:=fun e=>by rw[e,w3] at hn4;cases hn4
  have n14:=Ne.symm n41
  have n24:=Ne.symm n42
  have n34:=Ne.symm n43
  have n12:nl1≠nl2:=by assumption
  have n21:=Ne.symm n12
  have u4:vwS m l q bb B0 f x.fl d sm g v x.mask z0 [] nl4=none:=by
   cases hc:vwS m l q bb B0 f x.fl d sm g v x.mask z0 [] nl4 with
   | none=>rfl
   | some o=>rw[hle2 nl4 o hc] at hn4;cases hn4
  obtain⟨X,hX⟩:∃X:aT,.row 26 4 [x.c]=X:=⟨_,rfl⟩
  obtain⟨Y,hY⟩:∃Y:aT,.row 28 4 [[.int .i64 a,.int .i64 b,.int .i64 c,.int .i64 t]]=Y:=⟨_,rfl⟩
  rw[hX] at w1
  rw[hY] at w2
  have hD0:=Pk x.fl x.mask B0 z0 z0l.1 z0l.2.1 z0l.2.2
  refine aF (α:=Nat × Nat × Bool × Nat × VS × List (List MV) × Nat × List (List MV) × List BK) (fun s=>⟨205,[(9,.int .i64 (s.1:Int)),(8,.vec 5 s.2.2.2.2.2.2.1 0 s.2.2.2.2.2.2.2.2.length),(7,.ptr v 0 0),(6,.ptr nl3 0 0),(5,.ptr bb 0 0),(2,.ptr nl1 0 0),(3,.ptr nl2 0 0)],[]⟩)
   (fun s=>dS m l s.2.1 bb (mD B0 (x.post.take s.1)) f x.fl s.2.2.1 sm s.2.2.2.1 v x.mask s.2.2.2.2.1 s.2.2.2.2.2.1 nl1 nl2 nl3 s.2.2.2.2.2.2.1 X Y s.2.2.2.2.2.2.2.2 s.2.2.2.2.2.2.2.1)
   (fun s=>(s.1≤x.post.length∧kZ m l s.2.1 bb f sm s.2.2.2.1 v∧L2 (mD B0 (x.post.take s.1)) x.fl s.2.2.2.2.1)∧(u9 x.fl x.mask B0.sq s.2.2.2.2.2.2.2.2 s.2.2.2.2.1∧s.2.2.2.2.2.2.2.2[s.2.2.2.2.2.2.2.2.length - 1]?=some (mD B0 (x.post.take s.1))∧(∀A,A∈s.2.2.2.2.2.2.2.2→BkW A)∧s.2.2.2.2.2.2.2.2[0]?=some B0∧s.2.2.2.2.2.2.2.2.length≤1+1000 * s.1) ∧
    (s.2.2.2.2.2.2.1≠nl1∧s.2.2.2.2.2.2.1≠nl2∧s.2.2.2.2.2.2.1≠nl3)∧∀j,j=nl1∨j=nl2∨j=nl3∨j=s.2.2.2.2.2.2.1→vwS m l s.2.1 bb (mD B0 (x.post.take s.1)) f x.fl s.2.2.1 sm s.2.2.2.1 v x.mask s.2.2.2.2.1 s.2.2.2.2.2.1 j=none) (fun s=>x.post.length - s.1) ?_ ?_
  ·refine .of (.less ?_ (σ1:=dS m l q bb B0 f x.fl d sm g v x.mask z0 [] nl1 nl2 nl3 nl4 X Y [B0] []) ?_) ⟨(0,q,d,g,z0,[],nl4,[],[B0]),rfl,rfl,⟨Nat.zero_le _,V,v0⟩,⟨hD0,rfl,fun A hA=>?_,rfl,by simp⟩,⟨n41,n42,n43⟩,?_⟩
   ·exact wW
   ·refine St.aB (St.aB (St.aB (St.aB (eP hle2 u4) ?_) ?_) ?_) (aD _ _ _)
    ·rw[aG _ _ _ _ n14];exact w1
    ·rw[aG _ _ _ _ n24];exact w2
    ·rw[aG _ _ _ _ n34];exact w3
   ·rw[List.mem_singleton] at hA;subst hA;exact hB0
   ·rintro j (rfl|rfl|rfl|rfl)
    ·exact u1
    ·exact u2
    ·exact u3
    ·exact u4
  ·clear hle2 w1 w2 w3 u1 u2 u3 u4 hn4 hn3 V D v0 z0l hz0 hD0
   rintro⟨i,q1,d1,g1,z,ex,r,exA,al⟩ ⟨⟨hi,V1,hV⟩,⟨hD,hal,hall,hal0,haln⟩,⟨r1,r2,r3⟩,hno⟩
   simp only at hi V1 hV hD hal hall hal0 haln r1 r2 r3 hno ⊢
   have o1:=hno nl1 (.inl rfl)
   have o2:=hno nl2 (.inr (.inl rfl))
   have o3:=hno nl3 (.inr (.inr (.inl rfl)))
   have o4:=hno r (.inr (.inr (.inr rfl)))
   have r1':=Ne.symm r1
   have r2':=Ne.symm r2
   have r3':=Ne.symm r3
   clear hno
   by_cases hlt:i<x.post.length
   ·obtain⟨e,he⟩:=bU x.post hlt
    have hat:=bN (f:=ED.c) he
    have hml:(x.post.map ED.c).length=x.post.length:=List.length_map _
    have hW:=Uf hB0 (x.post.take i)
    have hsn:=CZ B0 (x.post.take i) e
    rw[←aZ he] at hsn
    obtain⟨W,hWe⟩:∃W,mD B0 (x.post.take i)=W:=⟨_,rfl⟩
    rw[hWe] at hW hsn hV hal o1 o2 o3 o4 ⊢
    have hpd:=Oh hW V1.D [] e
    have hrd:=AP nl3 hW e
    unfold DoD at hrd
    have hds:=Dr hW e
    have hsl:=OJ hW e
    obtain⟨hV2,hD2,hal2,hall2⟩:=Mq hW hD hal hall hV e
    have hlen:=hV.len
    have hbk:∀{j:Nat},vwS m l q1 bb W f x.fl d1 sm g1 v x.mask z ex j=none→bkS m l q1 bb W [] j=none:=fun h=>by
     have:=E0.1 h
     exact dV this.2.2.2.2.2.2.2 this.2.2.2.2.2.2.1 this.2.2.2.2.2.1 this.2.2.2.2.1
    obtain⟨Z,hZ⟩:∃Z:aT,.row 47 5 (al.map BK.c++exA)=Z:=⟨_,rfl⟩
    have hlek:(vwS m l q1 bb W f x.fl d1 sm g1 v x.mask z ex).le (dS m l q1 bb W f x.fl d1 sm g1 v x.mask z ex nl1 nl2 nl3 r X Y al exA):=eP (eP (eP (eP (St.le_refl _) o1) o2) o3) o4
    have c1:dS m l q1 bb W f x.fl d1 sm g1 v x.mask z ex nl1 nl2 nl3 r X Y al exA nl1=some (.row 26 4 [x.c]):=by simp[dS,St.set, *]
    have c2:dS m l q1 bb W f x.fl d1 sm g1 v x.mask z ex nl1 nl2 nl3 r X Y al exA nl2=some Y:=by simp[dS,St.set, *]
    have c3:dS m l q1 bb W f x.fl d1 sm g1 v x.mask z ex nl1 nl2 nl3 r X Y al exA nl3=some (dO W):=by simp[dS,St.set, *]
    have c4:dS m l q1 bb W f x.fl d1 sm g1 v x.mask z ex nl1 nl2 nl3 r X Y al exA r=some Z:=by rw[←hZ];exact aD _ _ _
    obtain⟨τ0,hτ0⟩:∃τ0,dS m l q1 bb W f x.fl d1 sm g1 v x.mask z ex nl1 nl2 nl3 r X Y al exA=τ0:=⟨_,rfl⟩
    rw[hτ0] at hlek c1 c2 c3 c4 ⊢
    clear hτ0 he hV hD hal hall
    repeat' first|(refine wM ?_;(first|(have _:=nl5)|(have _:=nl4;intro nl5)|(have _:=nl3;intro nl4)|(have _:=nl2;intro nl3)|(have _:=nl1;intro nl2)|(intro nl1));intros)|refine wV ?_|(refine wY ?_ ?_<;>intro h)|refine wZ9 @FXs @hat @hml @c1 @c2 @c3 @c4 @List.map_cons.{0,0} @List.map_nil.{0,0} ?_|simp(maxSteps:=4000000) (disch:=first|exact ddL|fail) only[go_sem,simprocAttr,FXs,hat,hml,c1,c2,c3,c4,List.map_cons,List.map_nil]|fail
    all_goals (try (exfalso;omega))
    refine uY (fun j o hj=>hlek j o (Ws V1 j o hj)) hpd ?_
    rintro _ τ' τa ⟨q2,D2,rfl,rfl⟩ hlea hfra
    obtain⟨V2,hle2⟩:=Uz V1 D2 hlea (fun j o hj hn=>hfra j o (hlek j o hj) hn)
    obtain⟨a1,b1⟩:=hfra nl1 _ c1 (hbk o1)
    obtain⟨a2,b2⟩:=hfra nl2 _ c2 (hbk o2)
    obtain⟨a3,b3⟩:=hfra nl3 _ c3 (hbk o3)
    obtain⟨a4,b4⟩:=hfra r _ c4 (hbk o4)
    have hvn:∀{j:Nat},vwS m l q1 bb W f x.fl d1 sm g1 v x.mask z ex j=none→bkS m l q2 bb (doB W e) [] j=none→vwS m l q2 bb (doB W e) f x.fl d1 sm g1 v x.mask z ex j=none:=fun h h'=>by
     obtain⟨e1,e2,e3,e4,e5,e6,e7,e8⟩:=E0.1 h
     simp only[aV] at h'
     exact E0.2 ⟨e1,e2,e3,e4,e5,h'.2.1,e7,e8⟩
    have p1:=hvn o1 b1
    have p2:=hvn o2 b2
    have p3:=hvn o3 b3
    have p4:=hvn o4 b4
    clear hfra hlek c1 c2 c3 c4 hbk hvn o1 o2 o3 o4 b1 b2 b3 b4 hpd V1 hlea
    have hst:=Ex hW (x:=e) hpe V2 d1 z hlen ex (mk:=x.mask)
    obtain⟨VV,hVV⟩:∃V,doV W e=V:=⟨_,rfl⟩
    obtain⟨EE,hEE⟩:∃E,doE W e=E:=⟨_,rfl⟩
    rw[hVV] at hst hrd ⊢
    rw[hEE] at hrd ⊢
    obtain⟨z2,hz2⟩:∃z2,eF (doB W e) x.fl x.mask z (cT W.sq (doC W e))=z2:=⟨_,rfl⟩
    rw[hz2] at hst hV2 hD2
    obtain⟨SS,hSS⟩:∃S,cJ W e=S:=⟨_,rfl⟩
    rw[hSS] at hds hsl hD2 hal2 hall2
    obtain⟨W2,hW2e⟩:∃W2,doB W e=W2:=⟨_,rfl⟩
    rw[hW2e] at hst hV2 hle2 p1 p2 p3 p4 hsn hrd hal2
    repeat' first|(refine wM ?_;(first|(have _:=nl5)|(have _:=nl4;intro nl5)|(have _:=nl3;intro nl4)|(have _:=nl2;intro nl3)|(have _:=nl1;intro nl2)|(intro nl1));intros)|refine wV ?_|(refine wY ?_ ?_<;>intro h)|refine wZ9 @FXs @hat @hml @a1 @a2 @a3 @a4 @List.map_cons.{0,0} @List.map_nil.{0,0} ?_|simp(maxSteps:=4000000) (disch:=first|exact ddL|fail) only[go_sem,simprocAttr,FXs,hat,hml,a1,a2,a3,a4,List.map_cons,List.map_nil]|fail
    all_goals (try (exfalso;omega))
    refine uY hle2 hst ?_
    rintro _ τ' τc ⟨d3,g3,ex3,V3,rfl⟩ hlec hfrc
    obtain⟨c1,s1⟩:=hfrc nl1 _ a1 p1
    obtain⟨c2,s2⟩:=hfrc nl2 _ a2 p2
    obtain⟨c3,s3⟩:=hfrc nl3 _ a3 p3
    obtain⟨c4,s4⟩:=hfrc r _ a4 p4
    clear hfrc a1 a2 a3 a4 p1 p2 p3 p4 hst hle2
    rw[←hZ] at c4
    have hAl:(al.map BK.c).length=al.length:=List.length_map _
    have hSl:(SS.map BK.c).length=SS.length:=List.length_map _
    have hmap:(al++SS).map BK.c=al.map BK.c++SS.map BK.c:=List.map_append
    have hpos:(al++SS).length=al.length+SS.length:=List.length_append
    obtain⟨L,hL⟩:∃L,al.map BK.c=L:=⟨_,rfl⟩
    obtain⟨S,hS⟩:∃S,SS.map BK.c=S:=⟨_,rfl⟩
    rw[hL] at c4 hAl hmap
    rw[hS] at hds hSl hmap
    have htk:(L++exA).take al.length=L:=List.take_left' hAl
    have hdr:∀n,(L++exA).drop (al.length+n)=exA.drop n:=fun n=>by rw[←List.drop_drop,List.drop_left' hAl]
    have hal02:(al++SS)[0]?=some B0:=by
     cases al with
     | nil=>simp at hal0
     | cons a b=>exact hal0
    obtain⟨C,k1⟩:=kw1 19 ⟨[],fun v=>v=.lst 5 S false,none⟩
    repeat' first|(refine aJ mixed dK C ?_)|(with_reducible refine aH (k1 _) hds ?_)|(refine cU (o:=dO W) (by simp[St.set, *];done) hrd ?_)|(refine wM ?_;(first|(have _:=nl5)|(have _:=nl4;intro nl5)|(have _:=nl3;intro nl4)|(have _:=nl2;intro nl3)|(have _:=nl1;intro nl2)|(intro nl1));intros)|refine wV ?_|(refine wY ?_ ?_<;>intro h)|refine wZ13 @FXs @hat @hml @c1 @c2 @c3 @c4 @hAl @hSl @htk @hdr @List.map_cons.{0,0} @List.map_nil.{0,0} ?_|simp(maxSteps:=4000000) (disch:=first|exact ddL|fail) only[go_sem,simprocAttr,FXs,hat,hml,c1,c2,c3,c4,hAl,hSl,htk,hdr,List.map_cons,List.map_nil]|fail
    all_goals (try (exfalso;omega))
    ·obtain rfl:exA=[]:=List.eq_nil_of_length_eq_zero oM
     rw[show L++[]++S=L++S++[] by simp]
     clear h htk hdr c4
     obtain⟨exB,hB⟩:∃exB,([]:List (List MV))=exB:=⟨_,rfl⟩
     rw[hB]
     have hn5:τc nl5=none:=by assumption
     have n51:nl5≠nl1:=fun e=>by rw[e,c1] at hn5;cases hn5
     have n52:nl5≠nl2:=fun e=>by rw[e,c2] at hn5;cases hn5
     have n53:nl5≠nl3:=fun e=>by rw[e,c3] at hn5;cases hn5
     have n15:=Ne.symm n51
     have n25:=Ne.symm n52
     have n35:=Ne.symm n53
     have s5:vwS m l q2 bb W2 f x.fl d3 sm g3 v x.mask z2 ex3 nl5=none:=by
      cases hc:vwS m l q2 bb W2 f x.fl d3 sm g3 v x.mask z2 ex3 nl5 with
      | none=>rfl
      | some o=>rw[hlec nl5 o hc] at hn5;cases hn5
     have e1:((τc.del r).set nl5 (.row 47 5 (L++S++exB))) nl1=some (.row 26 4 [x.c]):=by simp[St.set,St.del, *]
     have e2:((τc.del r).set nl5 (.row 47 5 (L++S++exB))) nl2=some Y:=by simp[St.set,St.del, *]
     have e3:((τc.del r).set nl5 (.row 47 5 (L++S++exB))) nl3=some (dO W):=by simp[St.set,St.del, *]
     have e4:((τc.del r).set nl5 (.row 47 5 (L++S++exB))) nl5=some (.row 47 5 (L++S++exB)):=aD _ _ _
     have hled:(vwS m l q2 bb W2 f x.fl d3 sm g3 v x.mask z2 ex3).le ((τc.del r).set nl5 (.row 47 5 (L++S++exB))):=fun j o hj=>by
      have j5:j≠nl5:=fun e=>by rw[e,s5] at hj;cases hj
      have jr:j≠r:=fun e=>by rw[e,s4] at hj;cases hj
      rw[aG _ _ _ _ j5]
      simp only[St.del,if_neg jr]
      exact hlec j o hj
     obtain⟨τd,hτd⟩:∃τd,(τc.del r).set nl5 (.row 47 5 (L++S++exB))=τd:=⟨_,rfl⟩
     rw[hτd] at e1 e2 e3 e4 hled ⊢
     clear hτd hds k1 hlec c1 c2 c3 hal0
     repeat' first|(refine cU (o:=dO W) (by assumption) hrd ?_)|(refine wM ?_;(first|(have _:=nl5)|(have _:=nl4;intro nl5)|(have _:=nl3;intro nl4)|(have _:=nl2;intro nl3)|(have _:=nl1;intro nl2)|(intro nl1));intros)|refine wV ?_|(refine wY ?_ ?_<;>intro h)|refine wZ8 @FXs @hat @hml @e1 @e2 @e3 @List.map_cons.{0,0} @List.map_nil.{0,0} ?_|exact wC8 @FXs @hat @hml @e1 @e2 @e3 @List.map_cons.{0,0} @List.map_nil.{0,0}|fail
     all_goals (try (exfalso;omega))
     all_goals
      refine .of (.less ?_ (σ1:=dS m l q2 bb W2 f x.fl d3 sm g3 v x.mask z2 ex3 nl1 nl2 nl3 nl5 X Y (al++SS) exB) ?_) ⟨(i+1,q2,d3,g3,z2,ex3,nl5,exB,al++SS),rfl,by simp only[hsn],⟨⟨by simp only;omega,V3,by simp only[hsn];exact hV2⟩,⟨hD2,by simp only[hsn];exact hal2,hall2,hal02,by simp only;omega⟩,⟨n51,n52,n53⟩,?_⟩,by simp only;omega⟩
      ·simp only[hpos]
       exact wW
      ·simp only[dS,hmap]
       refine St.aB (St.aB (St.aB (St.aB (eP hled s3) ?_) ?_) (aD _ _ _)) ?_
       ·rw[aG _ _ _ _ n13,←hX];exact e1
       ·rw[aG _ _ _ _ n23];exact e2
       ·rw[aG _ _ _ _ n53];exact e4
      ·simp only[hsn]
       rintro j (rfl|rfl|rfl|rfl)
       ·exact s1
       ·exact s2
       ·exact s3
       ·exact s5
    ·clear h htk hdr c4
     obtain⟨exB,hB⟩:∃exB,List.drop SS.length exA=exB:=⟨_,rfl⟩
     rw[hB]
     have hn5:τc nl5=none:=by assumption
     have n51:nl5≠nl1:=fun e=>by rw[e,c1] at hn5;cases hn5
     have n52:nl5≠nl2:=fun e=>by rw[e,c2] at hn5;cases hn5
     have n53:nl5≠nl3:=fun e=>by rw[e,c3] at hn5;cases hn5
     have n15:=Ne.symm n51
     have n25:=Ne.symm n52
     have n35:=Ne.symm n53
     have s5:vwS m l q2 bb W2 f x.fl d3 sm g3 v x.mask z2 ex3 nl5=none:=by
      cases hc:vwS m l q2 bb W2 f x.fl d3 sm g3 v x.mask z2 ex3 nl5 with
      | none=>rfl
      | some o=>rw[hlec nl5 o hc] at hn5;cases hn5
     have e1:((τc.del r).set nl5 (.row 47 5 (L++S++exB))) nl1=some (.row 26 4 [x.c]):=by simp[St.set,St.del, *]
     have e2:((τc.del r).set nl5 (.row 47 5 (L++S++exB))) nl2=some Y:=by simp[St.set,St.del, *]
     have e3:((τc.del r).set nl5 (.row 47 5 (L++S++exB))) nl3=some (dO W):=by simp[St.set,St.del, *]
     have e4:((τc.del r).set nl5 (.row 47 5 (L++S++exB))) nl5=some (.row 47 5 (L++S++exB)):=aD _ _ _
     have hled:(vwS m l q2 bb W2 f x.fl d3 sm g3 v x.mask z2 ex3).le ((τc.del r).set nl5 (.row 47 5 (L++S++exB))):=fun j o hj=>by
      have j5:j≠nl5:=fun e=>by rw[e,s5] at hj;cases hj
      have jr:j≠r:=fun e=>by rw[e,s4] at hj;cases hj
      rw[aG _ _ _ _ j5]
      simp only[St.del,if_neg jr]
      exact hlec j o hj
     obtain⟨τd,hτd⟩:∃τd,(τc.del r).set nl5 (.row 47 5 (L++S++exB))=τd:=⟨_,rfl⟩
     rw[hτd] at e1 e2 e3 e4 hled ⊢
     clear hτd hds k1 hlec c1 c2 c3 hal0
     repeat' first|(refine cU (o:=dO W) (by assumption) hrd ?_)|(refine wM ?_;(first|(have _:=nl5)|(have _:=nl4;intro nl5)|(have _:=nl3;intro nl4)|(have _:=nl2;intro nl3)|(have _:=nl1;intro nl2)|(intro nl1));intros)|refine wV ?_|(refine wY ?_ ?_<;>intro h)|refine wZ8 @FXs @hat @hml @e1 @e2 @e3 @List.map_cons.{0,0} @List.map_nil.{0,0} ?_|exact wC8 @FXs @hat @hml @e1 @e2 @e3 @List.map_cons.{0,0} @List.map_nil.{0,0}|fail
     all_goals (try (exfalso;omega))
     all_goals
      refine .of (.less ?_ (σ1:=dS m l q2 bb W2 f x.fl d3 sm g3 v x.mask z2 ex3 nl1 nl2 nl3 nl5 X Y (al++SS) exB) ?_) ⟨(i+1,q2,d3,g3,z2,ex3,nl5,exB,al++SS),rfl,by simp only[hsn],⟨⟨by simp only;omega,V3,by simp only[hsn];exact hV2⟩,⟨hD2,by simp only[hsn];exact hal2,hall2,hal02,by simp only;omega⟩,⟨n51,n52,n53⟩,?_⟩,by simp only;omega⟩
      ·simp only[hpos]
       exact wW
      ·simp only[dS,hmap]
       refine St.aB (St.aB (St.aB (St.aB (eP hled s3) ?_) ?_) (aD _ _ _)) ?_
       ·rw[aG _ _ _ _ n13,←hX];exact e1
       ·rw[aG _ _ _ _ n23];exact e2
       ·rw[aG _ _ _ _ n53];exact e4
      ·simp only[hsn]
       rintro j (rfl|rfl|rfl|rfl)
       ·exact s1
       ·exact s2
       ·exact s3
       ·exact s5
   ·obtain rfl:i=x.post.length:=by omega
    rw[List.take_length] at hV hal o1 o2 o3 o4 ⊢
    have hml:(x.post.map ED.c).length=x.post.length:=List.length_map _
    have hW:=Uf hB0 x.post
    obtain⟨W,hWe⟩:∃W,mD B0 x.post=W:=⟨_,rfl⟩
    rw[hWe] at hW hV hal o1 o2 o3 o4 ⊢
    have hsq1:=hB0.sq1
    have hsq2:=hW.sq2
    have hnow:=hV.at_
    have hflo:=hD.flo
    have hnw:=hD.now
    have hpos:=hD.pos
    have hAl:(al.map BK.c).length=al.length:=List.length_map _
    have hati:∀k A,al[k]?=some A→(al.map BK.c++exA).getD k []=A.c:=fun k A h=>by
     rw[List.getD_eq_getElem?_getD,List.getElem?_append_left (by rw[hAl];exact(List.getElem?_eq_some_iff.1 h).1),List.getElem?_map,h];rfl
    have hat0:=hati 0 B0 hal0
    obtain⟨fr,hfr⟩:∃fr,max a B0.sq=fr:=⟨_,rfl⟩
    have hm1:(if B0.sq > a then B0.sq else a)=fr:=by rw[←hfr];split<;>omega
    have hfr1:B0.sq≤fr:=by omega
    have hdl:=Ev V1.hv.2.2.2.2.2.2 f sm x.mask hV.toLInv oM ex fr b c
    have hfc:=Ew v f sm x.mask z.floor z.now (.vec 31 g1 0 z.log.length)
    have c1:dS m l q1 bb W f x.fl d1 sm g1 v x.mask z ex nl1 nl2 nl3 r X Y al exA nl1=some (.row 26 4 [x.c]):=by simp[dS,St.set, *]
    have c2:dS m l q1 bb W f x.fl d1 sm g1 v x.mask z ex nl1 nl2 nl3 r X Y al exA nl2=some (.row 28 4 [[.int .i64 a,.int .i64 b,.int .i64 c,.int .i64 t]]):=by simp[dS,St.set, *]
    have c3:dS m l q1 bb W f x.fl d1 sm g1 v x.mask z ex nl1 nl2 nl3 r X Y al exA nl3=some (dO W):=by simp[dS,St.set, *]
    have c4:dS m l q1 bb W f x.fl d1 sm g1 v x.mask z ex nl1 nl2 nl3 r X Y al exA r=some (.row 47 5 (al.map BK.c++exA)):=aD _ _ _
    have hlek:(vwS m l q1 bb W f x.fl d1 sm g1 v x.mask z ex).le (dS m l q1 bb W f x.fl d1 sm g1 v x.mask z ex nl1 nl2 nl3 r X Y al exA):=eP (eP (eP (eP (St.le_refl _) o1) o2) o3) o4
    obtain⟨τ0,hτ0⟩:∃τ0,dS m l q1 bb W f x.fl d1 sm g1 v x.mask z ex nl1 nl2 nl3 r X Y al exA=τ0:=⟨_,rfl⟩
    rw[hτ0] at hlek c1 c2 c3 c4 ⊢
    have e1:=hlek v _ (aD _ _ _)
    have e2:=hlek g1 _ ((aG _ _ _ _ (Ne.symm V1.hv.2.2.2.2.2.2)).trans (aD _ _ _))
    clear hτ0
    unfold U6 at hdl
    by_cases hc:fr<z.floor∨z.now<fr
    ·rw[if_pos hc] at hdl
     by_cases hc1:fr<z.floor
     ·repeat' first|(refine b6 hdl (le2 e2 e1) ?_)|(refine b6 hfc (St.aB (St.none_le _) e1) ?_)|(refine aC haw ?_)|(refine wM ?_;(first|(have _:=nl5)|(have _:=nl4;intro nl5)|(have _:=nl3;intro nl4)|(have _:=nl2;intro nl3)|(have _:=nl1;intro nl2)|(intro nl1));intros)|refine wV ?_|(refine wY ?_ ?_<;>intro h)|refine wZ10 @FXs @hml @c1 @c2 @c3 @c4 @hat0 @hm1 @List.map_cons.{0,0} @List.map_nil.{0,0} ?_|simp(maxSteps:=4000000) (disch:=first|exact ddL|fail) only[go_sem,simprocAttr,FXs,hml,c1,c2,c3,c4,hat0,hm1,List.map_cons,List.map_nil]|fail
      all_goals (try (exfalso;omega))
      all_goals first|exact⟨_,St.none_le _,rfl⟩|exact⟨_,St.none_le _⟩|exact⟨_,St.le_refl _,rfl⟩|exact⟨_,St.le_refl _⟩
     ·repeat' first|(refine b6 hdl (le2 e2 e1) ?_)|(refine b6 hfc (St.aB (St.none_le _) e1) ?_)|(refine aC haw ?_)|(refine wM ?_;(first|(have _:=nl5)|(have _:=nl4;intro nl5)|(have _:=nl3;intro nl4)|(have _:=nl2;intro nl3)|(have _:=nl1;intro nl2)|(intro nl1));intros)|refine wV ?_|(refine wY ?_ ?_<;>intro h)|refine wZ10 @FXs @hml @c1 @c2 @c3 @c4 @hat0 @hm1 @List.map_cons.{0,0} @List.map_nil.{0,0} ?_|simp(maxSteps:=4000000) (disch:=first|exact ddL|fail) only[go_sem,simprocAttr,FXs,hml,c1,c2,c3,c4,hat0,hm1,List.map_cons,List.map_nil]|fail
      all_goals (try (exfalso;omega))
      all_goals first|exact⟨_,St.none_le _,rfl⟩|exact⟨_,St.none_le _⟩|exact⟨_,St.le_refl _,rfl⟩|exact⟨_,St.le_refl _⟩
    ·rw[if_neg hc] at hdl
     obtain⟨its,to,A,A',k1,k2,k3,k4,k5,k6,k7,k8,k9,k10⟩:=Mp hD hV.toLInv hall (frm:=fr) oM oM b c
     rw[k1] at hdl
     simp only at hdl
     have hA1:=hati _ _ k6
     have hA2:=hati _ _ k7
     have hi1:=(List.getElem?_eq_some_iff.1 k6).1
     have hi2:=(List.getElem?_eq_some_iff.1 k7).1
     have hid1:=xY A k8.toBkR (by have:=k8.ng;omega) (fun g hg=>by have:=k8.nm g hg;omega) x.fl hpe false x.mask b
     have hid2:=xY A' k9.toBkR (by have:=k9.ng;omega) (fun g hg=>by have:=k9.nm g hg;omega) x.fl hpe false x.mask b
     have hl48:∀{B:BK},BkW B→(eO B x.fl x.mask b).length≤48:=fun hB=>by
      unfold eO
      rw[List.length_map]
      exact Nat.le_trans (List.length_filter_le _ _) hB.nc
     have hla:=hl48 k8
     have hlb:=hl48 k9
     have hitl:its.length≤1000:=by
      have hlen:=hV.len
      have e:its=(zQ z.log fr z.now b c).1:=by rw[k1]
      rw[e]
      unfold zQ Fo
      have q1:=Ay ((upS z.log fr z.now b).take (nF (upS z.log fr z.now b) (pgN c) (upS z.log fr z.now b).length))
      have q2:=tM ((upS z.log fr z.now b).take (nF (upS z.log fr z.now b) (pgN c) (upS z.log fr z.now b).length))
      have q3:=LS z.log fr z.now b
      rw[List.length_take] at q2
      simp only
      omega
     have hap:=Ez (eO A x.fl x.mask b) its oM false false
     unfold Df at hap
     rw[CJ (Aa k8 x.fl x.mask b) (Aa k9 x.fl x.mask b) k10,if_pos rfl] at hap
     have hcs:=Ht (eO A' x.fl x.mask b) (eO A' x.fl x.mask b) oM false false
     rw[decide_eq_true rfl] at hcs
     have hkn:=IZ (eO A x.fl x.mask b) (eO A' x.fl x.mask b) its oM oM oM (fun y hy=>by rw[PH,PH];exact NP k10 hy) false false false
     have hil:(its.map IT.k).length=its.length:=List.length_map _
     obtain⟨was,hwas⟩:∃w,(eO A x.fl x.mask b).map CA.c=w:=⟨_,rfl⟩
     obtain⟨now,hnow2⟩:∃w,(eO A' x.fl x.mask b).map CA.c=w:=⟨_,rfl⟩
     obtain⟨I,hI⟩:∃w,its.map IT.k=w:=⟨_,rfl⟩
     rw[hwas] at hid1 hap hkn
     rw[hnow2] at hid2 hap hcs hkn
     rw[hI] at hdl hap hkn hil
     clear k1 k6 k7 k10 hati hal hD hla hlb
     obtain⟨C1,kc1⟩:=kw1 23 ⟨[],fun v=>v=.lst 27 was false,none⟩
     obtain⟨C2,kc2⟩:=kw1 23 ⟨[],fun v=>v=.lst 27 now false,none⟩
     repeat' first|(refine b6 hdl (le2 e2 e1) ?_)|(refine b6 hfc (St.aB (St.none_le _) e1) ?_)|(refine aC haw ?_)|(refine wM ?_;(first|(have _:=nl5)|(have _:=nl4;intro nl5)|(have _:=nl3;intro nl4)|(have _:=nl2;intro nl3)|(have _:=nl1;intro nl2)|(intro nl1));intros)|refine wV ?_|(refine wY ?_ ?_<;>intro h)|refine wZ13 @FXs @hml @c1 @c2 @c3 @c4 @hat0 @hm1 @hil @hA1 @hA2 @List.map_cons.{0,0} @List.map_nil.{0,0} ?_|simp(maxSteps:=4000000) (disch:=first|exact ddL|fail) only[go_sem,simprocAttr,FXs,hml,c1,c2,c3,c4,hat0,hm1,hil,hA1,hA2,List.map_cons,List.map_nil]|fail
     all_goals (try (exfalso;omega))
     all_goals
      refine aJ mixed dK C1 ?_
      repeat' first|(with_reducible refine aH (kc1 _) hid1 ?_)|(refine wM ?_;(first|(have _:=nl5)|(have _:=nl4;intro nl5)|(have _:=nl3;intro nl4)|(have _:=nl2;intro nl3)|(have _:=nl1;intro nl2)|(intro nl1));intros)|refine wV ?_|(refine wY ?_ ?_<;>intro h)|refine wZ10 @FXs @hml @c1 @c2 @c3 @c4 @hA1 @hAl @List.map_cons.{0,0} @List.map_nil.{0,0} ?_|simp(maxSteps:=4000000) (disch:=first|exact ddL|fail) only[go_sem,simprocAttr,FXs,hml,c1,c2,c3,c4,hA1,hAl,List.map_cons,List.map_nil]|fail
      refine aJ mixed dK C2 ?_
      repeat' first|(with_reducible refine aH (kc2 _) hid2 ?_)|(refine aC hap ?_)|(refine aC hcs ?_)|(refine aC hkn ?_)|(refine aC haw ?_)|(refine wM ?_;(first|(have _:=nl5)|(have _:=nl4;intro nl5)|(have _:=nl3;intro nl4)|(have _:=nl2;intro nl3)|(have _:=nl1;intro nl2)|(intro nl1));intros)|refine wV ?_|(refine wY ?_ ?_<;>intro h)|refine wZ10 @FXs @hml @c1 @c2 @c3 @c4 @hA2 @hAl @List.map_cons.{0,0} @List.map_nil.{0,0} ?_|simp(maxSteps:=4000000) (disch:=first|exact ddL|fail) only[go_sem,simprocAttr,FXs,hml,c1,c2,c3,c4,hA2,hAl,List.map_cons,List.map_nil]|fail
      all_goals (try (exfalso;omega))
      all_goals first|exact⟨_,St.none_le _,rfl⟩|exact⟨_,St.none_le _⟩|exact⟨_,St.le_refl _,rfl⟩|exact⟨_,St.le_refl _⟩
end Go.Proofs.YtppdgejjmhdjhaaGreatDoor
