/- Parts of the proof; conditions: as its theorems name them. -/
import Derived.Test.YtppdgejjmhdjhaaGreatDoorM9zk
import Derived.Test.YtppdgejjmhdjhaaGreatDoorM9zl
set_option linter.unusedVariables false
set_option linter.unusedSimpArgs false
set_option maxHeartbeats 8000000
set_option maxRecDepth 100000
namespace Go.Proofs.YtppdgejjmhdjhaaGreatDoor
section
theorem lM(B:BK):aA Tryz.prog 16 [.agg B.c] St.none (fun r _=>r=.agg B.c):=by
 refine aA.bR (mB 17 [.cell 2 47] Tryz.func16 ?_)
 repeat' first|(refine wO ?_;intros)|(refine wY ?_ ?_<;>intro h)|refine wZ2 @Tryz.f16.eq_1 @FXs ?_|exact wC2 @Tryz.f16.eq_1 @FXs|fail
 all_goals exact lE
theorem Dd{B:BK}(hb:BkW B)(x:ED):aA Tryz.prog 19 [.agg B.c,.agg x.c] St.none (fun r _=>r=.lst 5 ((dX B x).map BK.c) false):=by
 refine aA.seen (mB 63 [.tmp 4] Tryz.func19 ?_)
 have hd1:=lM B
 have hd2:=lM (doB B x)
 have hdo:=fun(o:Nat)=>AJ o hb x
 unfold DoD at hdo
 by_cases h0:doE B x=0
 rotate_left
 ·have hS:dX B x=[]:=by unfold dX;rw[if_pos h0]
  have hV:doV B x=.aN:=by unfold doV;rw[if_neg h0]
  rw[hS]
  rw[hV] at hdo
  obtain⟨e,he⟩:∃e,doE B x=e:=⟨_,rfl⟩
  rw[he] at hdo h0
  clear hS hV hb
  repeat' first|(refine aC hd1 ?_)|(refine cZ (o:=dO B) (by simp[St.set, *];done) (hdo _) ?_)|(refine wM ?_;(first|(have _:=nl7)|(have _:=nl6;intro nl7)|(have _:=nl5;intro nl6)|(have _:=nl4;intro nl5)|(have _:=nl3;intro nl4)|(have _:=nl2;intro nl3)|(have _:=nl1;intro nl2)|(intro nl1));intros)|refine wV ?_|(refine wY ?_ ?_<;>intro h)|refine wZ2 @Tryz.f19.eq_1 @FXs ?_|exact wC2 @Tryz.f19.eq_1 @FXs|fail
  all_goals first|exact .nil _ _|(exfalso;omega)
 ·obtain⟨l,l1,l2,l3,l4⟩:=KK hb h0
  obtain⟨g1,g2⟩:=KL h0
  have hV:doV B x=.lst 2 ((cV B.sq (doC B x)).map chC) false:=by unfold doV;rw[if_pos h0,Ey]
  have hS:dX B x=dJ B x.gr (cV B.sq l)++[doB B x]:=by unfold dX;rw[if_neg (by simpa using h0),l1]
  have hwW:=(VQ ⟨g1,g2⟩ l B.sq B hb (Int.le_refl _) l4).1
  have hll:l.length≤1000:=by
   have h1:=(doC B x).length
   rcases kB hb x [] with⟨e1,-⟩|⟨-,i,e2,-⟩|⟨-,e2,-⟩
   ·exact absurd h0 e1
   ·rw[e2] at l2;simp only[List.length_singleton] at l2;omega
   ·have:=pV hb x.gr
    rw[e2,List.length_append,List.length_singleton] at l2
    omega
  have hPl:(cV B.sq (doC B x)).length=l.length+1:=by rw[l5,l2]
  have hPt:(cV B.sq (doC B x)).take l.length=cV B.sq l:=by
   have:=List.dropLast_eq_take (l:=cV B.sq (doC B x))
   rw[l1,hPl,Nat.add_sub_cancel] at this
   exact this.symm
  rw[hS]
  rw[hV,h0] at hdo
  have hat:∀i p,(cV B.sq l)[i]?=some p→((cV B.sq (doC B x)).map chC).getD i []=chC p∧1≤p.2∧p.2<1073741824:=fun i p hp=>by
   have hi:=(List.getElem?_eq_some_iff.1 hp).1
   rw[l5] at hi
   refine⟨bF (f:=chC) ?_,l3 p.2 (LH B.sq l p (List.mem_of_getElem? hp)).2.2⟩
   rw[←hPt,List.getElem?_take,if_pos hi] at hp
   exact hp
  have hml:((cV B.sq (doC B x)).map chC).length=l.length+1:=by rw[List.length_map,hPl]
  obtain⟨Q,hQ⟩:∃Q,(cV B.sq (doC B x)).map chC=Q:=⟨_,rfl⟩
  obtain⟨P,hP⟩:∃P,cV B.sq l=P:=⟨_,rfl⟩
  have hPn:P.length=l.length:=by rw[←hP,l5]
  rw[hQ] at hdo hat hml
  rw[hP] at hat hwW ⊢
  obtain⟨n,hn⟩:∃n,l.length=n:=⟨_,rfl⟩
  rw[hn] at hml hPn hll
  clear l1 l2 l3 l4 hV hS hPl hPt hQ hP
  repeat' first|(refine aC hd1 ?_)|(refine cZ (o:=dO B) (by simp[St.set, *];done) (hdo _) ?_)|(refine wM ?_;(first|(have _:=nl7)|(have _:=nl6;intro nl7)|(have _:=nl5;intro nl6)|(have _:=nl4;intro nl5)|(have _:=nl3;intro nl4)|(have _:=nl2;intro nl3)|(have _:=nl1;intro nl2)|(intro nl1));intros)|refine wV ?_|(refine wY ?_ ?_<;>intro h)|refine wZ3 @Tryz.f19.eq_1 @FXs @hml ?_|exact wC3 @Tryz.f19.eq_1 @FXs @hml|fail
  all_goals (try (exfalso;omega))
  have a21:nl2≠nl1:=by assumption
  have a31:nl3≠nl1:=by assumption
  have a32:nl3≠nl2:=by assumption
  have a41:nl4≠nl1:=by assumption
  have a42:nl4≠nl2:=by assumption
  have a43:nl4≠nl3:=by assumption
  have a51:nl5≠nl1:=by assumption
  have a52:nl5≠nl2:=by assumption
  have a53:nl5≠nl3:=by assumption
  have a54:nl5≠nl4:=by assumption
  have a23:=Ne.symm a32
  have a24:=Ne.symm a42
  have a34:=Ne.symm a43
  refine aE (α:=Nat × Nat × List (List MV)) (fun s=>⟨63,[(10,.int .i64 (s.1:Int)),(9,.vec 5 s.2.1 0 s.1),(7,.lst 2 Q false),(5,.ptr nl3 0 0),(6,.ptr nl4 0 0),(3,.ptr nl2 0 0)],[]⟩)
   (fun s=>(((St.none.set nl2 (.row 59 29 [x.c])).set nl3 (.row 47 5 [(HZ B x.gr (P.take s.1)).c])).set nl4 (dO (doB B x))).set s.2.1 (.row 47 5 ((dJ B x.gr (P.take s.1)).map BK.c++s.2.2))) (fun s=>s.1≤n∧s.2.1≠nl2∧s.2.1≠nl3∧s.2.1≠nl4) (fun s=>n - s.1) ?_ ?_
  ·refine .of (.less ?_ (σ1:=(((St.none.set nl2 (.row 59 29 [x.c])).set nl3 (.row 47 5 [B.c])).set nl4 (dO (doB B x))).set nl5 (.row 47 5 [])) ?_) ⟨(0,nl5,[]),rfl,rfl,Nat.zero_le _,a52,a53,a54⟩
   ·exact wW
   ·exact St.aB (St.aB (le2 sS sS) sS) sS
  ·rintro⟨i,q,ex⟩ ⟨hi,q2,q3,q4⟩
   simp only at hi q2 q3 q4 ⊢
   have q2':=Ne.symm q2
   have q3':=Ne.symm q3
   have q4':=Ne.symm q4
   by_cases hlt:i<n
   ·obtain⟨p,hp⟩:=bW P (by omega:i<P.length)
    obtain⟨hatp,p1,p2⟩:=hat i p hp
    have hW:=hwW i
    have hsl:=uV x.gr (P.take i) B p
    have hws:=OP x.gr (P.take i) B p
    rw[←aP hp] at hsl hws
    have hSl:((dJ B x.gr (P.take i)).map BK.c).length=i:=by rw[List.length_map,mP,List.length_take];omega
    obtain⟨W,hWe⟩:∃W,HZ B x.gr (P.take i)=W:=⟨_,rfl⟩
    rw[hWe] at hW hsl hws ⊢
    have hqc:=AQ W.gr hW.grF x.gr p.2 g1 g2 p1 p2 false
    have hQs:(gN x.gr W p).c=[.int .i64 p.1,.int .i64 W.nx,.lst 27 (W.cards.map CA.c) false,.lst 3 (W.dead.map DE.c) false,.lst 2 ((qC W.gr x.gr p.2).map GR.c) false]:=rfl
    obtain⟨Z,hZ⟩:∃Z,qC W.gr x.gr p.2=Z:=⟨_,rfl⟩
    have hqq:∃v e,(if x.gr∈W.gr.map GR.no then(if p.2∈bI W.gr x.gr then MV.tup [.lst 2 ((fK W.gr x.gr (dF (bI W.gr x.gr) p.2)).map GR.c) false,.int .i64 0] else .tup [.aN,.int .i64 6]) else .tup [.aN,.int .i64 6])=.tup [v,.int .i64 e]∧((e=0∧v=.lst 2 (Z.map GR.c) false)∨(e=6∧v=.aN∧W.gr=Z)):=by
     unfold qC at hZ
     by_cases c1:x.gr∈W.gr.map GR.no
     ·rw[if_pos c1]
      by_cases c2:p.2∈bI W.gr x.gr
      ·rw[if_pos ⟨c1,c2⟩] at hZ
       rw[if_pos c2,hZ]
       exact⟨_,_,rfl,.inl ⟨rfl,rfl⟩⟩
      ·rw[if_neg fun h=>c2 h.2] at hZ
       rw[if_neg c2]
       exact⟨_,_,rfl,.inr ⟨rfl,rfl,hZ⟩⟩
     ·rw[if_neg fun h=>c1 h.1] at hZ
      rw[if_neg c1]
      exact⟨_,_,rfl,.inr ⟨rfl,rfl,hZ⟩⟩
    obtain⟨v,e,hve,hcase⟩:=hqq
    rw[hve] at hqc
    rw[hZ] at hQs
    obtain⟨C,k1⟩:=kw1 80 ⟨[],fun w=>w=.tup [v,.int .i64 e],none⟩
    obtain⟨L,hL⟩:∃L,(dJ B x.gr (P.take i)).map BK.c=L:=⟨_,rfl⟩
    have hL2:(dJ B x.gr (P.take (i+1))).map BK.c=L++[(gN x.gr W p).c]:=by rw[hsl,List.map_append,hL];rfl
    rw[hL] at hSl ⊢
    have htk:(L++ex).take i=L:=List.take_left' hSl
    have hdr:(L++ex).drop (i+1)=ex.drop 1:=by rw[←List.drop_drop,List.drop_left' hSl]
    clear hsl hW hve hat hwW hdo hd1
    rcases hcase with⟨rfl,rfl⟩|⟨rfl,rfl,hZe⟩
    ·repeat' first|(refine aI mixed dK C ?_)|(with_reducible refine aG (k1 _) hqc ?_)|(refine wM ?_;(first|(have _:=nl7)|(have _:=nl6;intro nl7)|(have _:=nl5;intro nl6)|(have _:=nl4;intro nl5)|(have _:=nl3;intro nl4)|(have _:=nl2;intro nl3)|(have _:=nl1;intro nl2)|(intro nl1));intros)|refine wV ?_|(refine wY ?_ ?_<;>intro h)|refine wZ6 @FXs @hml @hatp @hSl @htk @hdr ?_|exact wC6 @FXs @hml @hatp @hSl @htk @hdr|fail
     all_goals (try (exfalso;omega))
     all_goals clear hqc k1
     ·obtain rfl:ex=[]:=List.eq_nil_of_length_eq_zero oM
      clear h
      refine .of (.less ?_ (σ1:=(((St.none.set nl2 (.row 59 29 [x.c])).set nl3 (.row 47 5 [(gN x.gr W p).c])).set nl4 (dO (doB B x))).set nl7 (.row 47 5 ((L++[(gN x.gr W p).c])++[]))) ?_) ⟨(i+1,nl7,[]),rfl,by simp only[hws,hL2],⟨by simp only;omega,by assumption,by assumption,by assumption⟩,by simp only;omega⟩
      ·exact wW
      ·rw[hQs]
       exact St.aB (St.aB (le2 sS sS) sS) sS
     ·clear h
      refine .of (.less ?_ (σ1:=(((St.none.set nl2 (.row 59 29 [x.c])).set nl3 (.row 47 5 [(gN x.gr W p).c])).set nl4 (dO (doB B x))).set nl7 (.row 47 5 ((L++[(gN x.gr W p).c])++ex.drop 1))) ?_) ⟨(i+1,nl7,ex.drop 1),rfl,by simp only[hws,hL2],⟨by simp only;omega,by assumption,by assumption,by assumption⟩,by simp only;omega⟩
      ·exact wW
      ·rw[hQs]
       exact St.aB (St.aB (le2 sS sS) sS) sS
    ·rw[←hZe] at hQs
     repeat' first|(refine aI mixed dK C ?_)|(with_reducible refine aG (k1 _) hqc ?_)|(refine wM ?_;(first|(have _:=nl7)|(have _:=nl6;intro nl7)|(have _:=nl5;intro nl6)|(have _:=nl4;intro nl5)|(have _:=nl3;intro nl4)|(have _:=nl2;intro nl3)|(have _:=nl1;intro nl2)|(intro nl1));intros)|refine wV ?_|(refine wY ?_ ?_<;>intro h)|refine wZ6 @FXs @hml @hatp @hSl @htk @hdr ?_|exact wC6 @FXs @hml @hatp @hSl @htk @hdr|fail
     all_goals (try (exfalso;omega))
     all_goals clear hqc k1 hZe
     ·obtain rfl:ex=[]:=List.eq_nil_of_length_eq_zero oM
      clear h
      refine .of (.less ?_ (σ1:=(((St.none.set nl2 (.row 59 29 [x.c])).set nl3 (.row 47 5 [(gN x.gr W p).c])).set nl4 (dO (doB B x))).set nl7 (.row 47 5 ((L++[(gN x.gr W p).c])++[]))) ?_) ⟨(i+1,nl7,[]),rfl,by simp only[hws,hL2],⟨by simp only;omega,by assumption,by assumption,by assumption⟩,by simp only;omega⟩
      ·exact wW
      ·rw[hQs]
       exact St.aB (St.aB (le2 sS sS) sS) sS
     ·clear h
      refine .of (.less ?_ (σ1:=(((St.none.set nl2 (.row 59 29 [x.c])).set nl3 (.row 47 5 [(gN x.gr W p).c])).set nl4 (dO (doB B x))).set nl7 (.row 47 5 ((L++[(gN x.gr W p).c])++ex.drop 1))) ?_) ⟨(i+1,nl7,ex.drop 1),rfl,by simp only[hws,hL2],⟨by simp only;omega,by assumption,by assumption,by assumption⟩,by simp only;omega⟩
      ·exact wW
      ·rw[hQs]
       exact St.aB (St.aB (le2 sS sS) sS) sS
   ·obtain rfl:i=n:=by omega
    have hPa:P.take i=P:=List.take_of_length_le oM
    rw[hPa]
    have hSl:((dJ B x.gr P).map BK.c).length=i:=by rw[List.length_map,mP,hPn]
    obtain⟨L,hL⟩:∃L,(dJ B x.gr P).map BK.c=L:=⟨_,rfl⟩
    have hL2:(dJ B x.gr P++[doB B x]).map BK.c=L++[(doB B x).c]:=by rw[List.map_append,hL];rfl
    rw[hL] at hSl ⊢
    rw[hL2]
    have htk:(L++ex).take i=L:=List.take_left' hSl
    have hdr:(L++ex).drop (i+1)=ex.drop 1:=by rw[←List.drop_drop,List.drop_left' hSl]
    clear hat hwW hdo hd1
    repeat' first|(refine aC hd2 ?_)|(refine wM ?_;(first|(have _:=nl7)|(have _:=nl6;intro nl7)|(have _:=nl5;intro nl6)|(have _:=nl4;intro nl5)|(have _:=nl3;intro nl4)|(have _:=nl2;intro nl3)|(have _:=nl1;intro nl2)|(intro nl1));intros)|refine wV ?_|(refine wY ?_ ?_<;>intro h)|refine wZ5 @FXs @hml @hSl @htk @hdr ?_|exact wC5 @FXs @hml @hSl @htk @hdr|fail
    all_goals (try (exfalso;omega))
    ·obtain rfl:ex=[]:=List.eq_nil_of_length_eq_zero oM
     rw[List.append_nil]
     exact View.vecAll (aD _ _ _) (by rw[List.length_append,hSl];rfl)
    ·exact cX (aD _ _ _) (by rw[List.length_append,hSl];rfl)
theorem Iv(o m:Nat)(hom:o≠m){B:BK}(hb:BkW B){fl:List ND}(hp:bS fl=0)(tf:Bool)(mk:UInt32)(w:VS)(hl:w.log.length≤40)(x:ED) :
  aA Tryz.prog 33 [.ptr o 0 0,.ptr m 0 0,.agg x.c] ((St.none.set m (dO B)).set o (dvO fl tf mk w)) (fun r σ'=>r=.tup [doV B x,.int .i64 (doE B x)]∧σ'=(St.none.set m (dO (doB B x))).set o (dvO fl tf mk (kC fl mk w B (dX B x) (cV B.sq (doC B x))))):=by
 have hmo:=Ne.symm hom
 refine aA.less (Q':=fun r σ'=>r=.tup [doV B x,.int .i64 (doE B x)]∧((St.none.set m (dO (doB B x))).set o (dvO fl tf mk (kC fl mk w B (dX B x) (cV B.sq (doC B x))))).le σ') (mB 51 [.tmp 6,.tmp 7] Tryz.func33 ?_) fun r σ' h=>⟨_,h.2,h.1,rfl⟩
 have hd1:=lM B
 have hst:=Dd hb x
 have hdo:=AJ m hb x
 unfold DoD at hdo
 have hSW:=OG hb (x:=x)
 have hSl:=HP (x:=x) hb
 have hSn:(dX B x).length≤1000:=by
  rw[hSl,l5]
  rcases kB hb x [] with⟨-,e2,-⟩|⟨-,i,e2,-⟩|⟨-,e2,-⟩
  ·rw[e2];simp
  ·rw[e2];simp
  ·have:=pV hb x.gr
   rw[e2,List.length_append,List.length_singleton];omega
 have hVat:∀i p,(cV B.sq (doC B x))[i]?=some p→∃Q,doV B x=.lst 2 Q false∧Q.getD i []=[.int .i64 p.1,.int .i64 p.2]∧Q.length=(dX B x).length:=fun i p hp=>by
  by_cases h0:doE B x=0
  ·refine⟨(cV B.sq (doC B x)).map chC,by unfold doV;rw[if_pos h0,Ey],bF (f:=chC) hp,by rw[List.length_map,hSl]⟩
  ·have:doC B x=[]:=by
    rcases kB hb x [] with⟨-,e2,-⟩|⟨e1,-⟩|⟨e1,-⟩
    ·exact e2
    ·exact absurd e1 h0
    ·exact absurd e1 h0
   rw[this] at hp
   simp[cV] at hp
 obtain⟨S,hS⟩:∃S,dX B x=S:=⟨_,rfl⟩
 obtain⟨P,hP⟩:∃P,cV B.sq (doC B x)=P:=⟨_,rfl⟩
 obtain⟨V,hV⟩:∃V,doV B x=V:=⟨_,rfl⟩
 obtain⟨E,hE⟩:∃E,doE B x=E:=⟨_,rfl⟩
 obtain⟨B',hB'⟩:∃B',doB B x=B':=⟨_,rfl⟩
 rw[hS] at hst hSW hSl hSn
 rw[hP] at hSl
 simp only[hS,hP,hV] at hVat
 rw[hV,hE,hB'] at hdo
 rw[hS,hP,hV,hE,hB']
 have hml:(S.map BK.c).length=S.length:=List.length_map _
 clear hS hP hV hE hB'
 obtain⟨C,k1⟩:=kw1 19 ⟨[],fun v=>v=.lst 5 (S.map BK.c) false,none⟩
 repeat' first|(refine aC hd1 ?_)|(refine aI mixed dK C ?_)|(with_reducible refine aG (k1 _) hst ?_)|(refine cZ (o:=dO B) (by simp[St.set, *];done) hdo ?_)|(refine wM ?_;(first|(have _:=nl2)|(have _:=nl1;intro nl2)|(intro nl1));intros)|refine wV ?_|(refine wY ?_ ?_<;>intro h)|refine wZ2 @Tryz.f33.eq_1 @FXs ?_|exact wC2 @Tryz.f33.eq_1 @FXs|fail
 all_goals (try (exfalso;omega))
 have a1o:nl1≠o:=by assumption
 have a1m:nl1≠m:=by assumption
 have a2o:nl2≠o:=by assumption
 have a2m:nl2≠m:=by assumption
 have ao2:=Ne.symm a2o
 have am2:=Ne.symm a2m
 clear hst k1 hdo hd1
 refine aE (α:=Nat) (fun i=>⟨51,[(12,.int .i64 (i:Int)),(11,.int .i64 E),(10,V),(9,.lst 5 (S.map BK.c) false),(8,.ptr nl2 0 0),(0,.ptr o 0 0)],[]⟩)
  (fun i=>((St.none.set m (dO B')).set o (dvO fl tf mk (kC fl mk w B (S.take i) (P.take i)))).set nl2 (.row 47 5 [((S.take i).getLastD B).c])) (fun i=>i≤S.length) (fun i=>S.length - i) ?_ ?_
 ·refine .of (.less ?_ (σ1:=((St.none.set m (dO B')).set o (dvO fl tf mk w)).set nl2 (.row 47 5 [B.c])) (St.aB (le2 sS sS) sS)) ⟨0,rfl,rfl,Nat.zero_le _⟩
  exact wW
 ·intro i hi
  have hi:i≤S.length:=hi
  by_cases hlt:i<S.length
  ·obtain⟨n,hn⟩:=bW S hlt
   obtain⟨p,hpp⟩:=bW P (by omega:i<P.length)
   obtain⟨Q,rfl,hq1,hq2⟩:=hVat i p hpp
   have hat:=bF (f:=BK.c) hn
   have hz:=B9 (fl:=fl) (mk:=mk) (S.take i) (P.take i) w B hl
   have hsn:=zQ fl mk (S.take i) (P.take i) w B n p (by rw[List.length_take,List.length_take,hSl])
   rw[←aP hn,←aP hpp] at hsn
   have hgl:(S.take (i+1)).getLastD B=n:=by rw[aP hn];simp
   have hwW:BkW ((S.take i).getLastD B):=by
    cases hSt:S.take i with
    | nil=>exact hb
    | cons a b =>
     have hin:(a::b).getLastD B∈a::b:=by
      rw[List.getLastD_cons]
      cases b with
      | nil=>exact List.mem_cons_self ..
      | cons c d=>rw[List.getLastD_cons];exact List.mem_cons_of_mem _ (by rw[←List.getLastD_cons (a:=a)];exact List.getLast_mem (by simp))
     rw[←hSt] at hin ⊢
     exact hSW _ (List.mem_of_mem_take hin)
   obtain⟨W,hW⟩:∃W,(S.take i).getLastD B=W:=⟨_,rfl⟩
   obtain⟨z,hze⟩:∃z,kC fl mk w B (S.take i) (P.take i)=z:=⟨_,rfl⟩
   rw[hze] at hz hsn ⊢
   rw[hW] at hsn hwW ⊢
   have hstp:=Iz o hwW (hSW n (List.mem_of_getElem? hn)) hp tf mk z oM p.1 p.2
   obtain⟨K,hK,c1⟩:∃K:cC,PlU (.these [99]) K∧∀ms,K 99 ms=some ⟨[o],fun _=>True,some ([dvO fl tf mk (oZ W n fl mk z p.1 p.2)],fun _=>.tup [])⟩ :=
    ⟨fnF [(99,⟨[o],fun _=>True,some ([dvO fl tf mk (oZ W n fl mk z p.1 p.2)],fun _=>.tup [])⟩)],kZ,fun _=>bV⟩
   obtain⟨z2,hz2⟩:∃z2,oZ W n fl mk z p.1 p.2=z2:=⟨_,rfl⟩
   rw[hz2] at hsn hstp c1
   clear hVat hSW hwW hz
   repeat' first|(refine b9 mixed [99] dK K hK ?_)|(refine gQ (o:=dvO fl tf mk z) (c1 _) sS hstp ?_)|(refine wM ?_;(first|(have _:=nl2)|(have _:=nl1;intro nl2)|(intro nl1));intros)|refine wV ?_|(refine wY ?_ ?_<;>intro h)|refine wZ5 @FXs @hat @hq1 @hq2 @hml ?_|exact wC5 @FXs @hat @hq1 @hq2 @hml|fail
   all_goals (try (exfalso;omega))
   all_goals
    refine .of (.less ?_ (σ1:=((St.none.set m (dO B')).set o (dvO fl tf mk z2)).set nl2 (.row 47 5 [n.c])) (St.aB (le2 sS sS) sS)) ⟨i+1,rfl,by rw[hsn,hgl],(by omega:i+1≤S.length),by omega⟩
    exact wW
  ·obtain rfl:i=S.length:=by omega
   rw[List.take_length,hSl,List.take_length]
   repeat' first|(refine wM ?_;(first|(have _:=nl2)|(have _:=nl1;intro nl2)|(intro nl1));intros)|refine wV ?_|(refine wY ?_ ?_<;>intro h)|refine wZ2 @FXs @hml ?_|exact wC2 @FXs @hml|fail
   all_goals first|exact⟨rfl,le2 sS sS⟩|exact le2 sS sS
end

section
def mY(B:BK)(l:List ED):BK:=l.foldl doB B
theorem T7{B:BK}(hb:BkW B):∀l:List ED,BkW (mY B l):=fun l=>by
 induction l generalizing B with
 | nil=>exact hb
 | cons x l ih=>exact ih (doW hb x)
theorem CQ(B:BK)(l:List ED)(x:ED):mY B (l++[x])=doB (mY B l) x:=by
 unfold mY
 rw[List.foldl_append];rfl
theorem Wh:BkW bk1:=Wj (by decide)
theorem Mk:aA Tryz.prog 61 [] St.none (fun r _=>r=.agg bk1.c):=by
 refine aA.seen (mB 3 [.cell 0 41] Tryz.func61 ?_)
 repeat' first|(refine wO ?_;intros)|(refine wY ?_ ?_<;>intro h)|refine wZ2 @Tryz.f61.eq_1 @FXs ?_|exact wC2 @Tryz.f61.eq_1 @FXs|fail
 all_goals exact View.W5 ⟨.same _,.same _,.nil _ _,.nil _ _,.nil _ _,trivial⟩ rfl
theorem Uk{P:Program}{g:FuncId}{ms:List MV}{σ:St}{m l q b:Nat}{B:BK}{ex:List (List MV)}{x:ED}{k:MV→St→Prop}(hb:(bkS m l q b B ex).le σ)(h:aA P g ms (bkS m l q b B ex) (DoP m l b B x))
 (hk:∀q' ex' τ,dQ m l q' b→(bkS m l q' b (doB B x) ex').le τ→(∀j o,σ j=some o→bkS m l q b B ex j=none→τ j=some o∧j≠q')→R (bY (.tup [doV B x,.int .i64 (doE B x)]) τ k)):R (cU P g ms σ k) :=
 bJ h hb fun v σ' hv hf=>by
  obtain⟨q',ex',D,rfl,rfl⟩:=hv
  refine hk q' ex' _ D (kW _ _) fun j o hj hn=>?_
  have hq:(bkS m l q' b (doB B x) ex') j=none:=by
   cases hc:(bkS m l q' b (doB B x) ex') j with
   | none=>rfl
   | some o' =>
    rcases hf j o' hc with h1|⟨o'',h1⟩
    ·rw[hj] at h1;cases h1
    ·rw[hn] at h1;cases h1
  refine⟨?_,fun e=>?_⟩
  ·unfold St.over St.minus
   rw[hq,hn]
   exact hj
  ·subst e
   simp only[aU] at hq
   exact hq.2.1 rfl
theorem eR{σ τ:St}(h:σ.le τ){n:Nat}{o:aW}(hn:σ n=none):σ.le (τ.set n o):=fun j o' hj=>by
 unfold St.set
 rw[if_neg (fun e=>by subst e;rw[hn] at hj;cases hj)]
 exact h j o' hj
theorem eA{m l q b:Nat}{B:BK}{ex:List (List MV)}{j:Nat}(h1:j≠m)(h2:j≠l)(h3:j≠q)(h4:j≠b):bkS m l q b B ex j=none:=by
 simp only[aU]
 exact⟨h4,h3,h2,h1,rfl⟩
theorem H7(es:List ED)(hl:es.length≤1000000)(tt:Bool):aA Tryz.prog 14 [.lst 29 (es.map ED.c) tt] St.none (fun r σ'=>∃m l q b ex,dQ m l q b∧r=.tup [.ptr b 0 0,.agg (mY bk1 es).c]∧σ'=bkS m l q b (mY bk1 es) ex):=by
 refine aA.less (Q':=fun r σ'=>∃m l q b ex,dQ m l q b∧r=.tup [.ptr b 0 0,.agg (mY bk1 es).c]∧(bkS m l q b (mY bk1 es) ex).le σ') (mB 28 [.tmp 2,.cell 3 41] Tryz.func14 ?_) fun r σ' ⟨m,l,q,b,ex,h1,h2,h3⟩=>⟨_,h3,m,l,q,b,ex,h1,h2,rfl⟩
 have hnew:aA Tryz.prog 60 [] St.none _:=xE
 have hdn:=Mk
 have hml:(es.map ED.c).length=es.length:=List.length_map _
 repeat' first|(refine aC hdn ?_)|((refine LP hnew ?_;intro m l q b hm hl hq hb D;simp only[aU] at hm hl hq hb;obtain⟨m1,-⟩:=hm;obtain⟨l1,-⟩:=hl;obtain⟨q1,-⟩:=hq;obtain⟨b1,-⟩:=hb;have m1':=Ne.symm m1;have l1':=Ne.symm l1;have q1':=Ne.symm q1;have b1':=Ne.symm b1;have D':=D;obtain⟨d1,d2,d3,d4,d5,d6⟩:=D;have e1:=Ne.symm d1;have e2:=Ne.symm d2;have e3:=Ne.symm d3;have e4:=Ne.symm d4;have e5:=Ne.symm d5;have e6:=Ne.symm d6))|(refine wM ?_;(first|(have _:=nl2)|(have _:=nl1;intro nl2)|(intro nl1));intros)|refine wV ?_|(refine wY ?_ ?_<;>intro h)|refine wZ2 @Tryz.f14.eq_1 @FXs ?_|exact wC2 @Tryz.f14.eq_1 @FXs|fail
 have n12:nl2≠nl1:=by assumption
 have n21:=Ne.symm n12
 have b2m:nl2≠m:=by assumption
 have b2l:nl2≠l:=by assumption
 have b2q:nl2≠q:=by assumption
 have b2b:nl2≠b:=by assumption
 refine aE (α:=Nat × Nat × List (List MV)) (fun s=>⟨28,[(6,.int .i64 (s.1:Int)),(4,.ptr b 0 0),(5,.ptr nl2 0 0),(3,.ptr nl1 0 0),(0,.lst 29 (es.map ED.c) tt)],[]⟩)
  (fun s=>((bkS m l s.2.1 b (mY bk1 (es.take s.1)) s.2.2).set nl1 (.row 41 5 [[.int .i64 0,.int .i64 0,.aN,.aN,.aN]])).set nl2 (dO (mY bk1 (es.take s.1)))) (fun s=>s.1≤es.length∧dQ m l s.2.1 b∧s.2.1≠nl1∧s.2.1≠nl2) (fun s=>es.length - s.1) ?_ ?_
 ·refine .of (.less ?_ ?_) ⟨(0,q,[]),rfl,rfl,Nat.zero_le _,D',Ne.symm q1',Ne.symm b2q⟩
  ·exact wW
  ·simp only[bkS,shS,List.append_nil,mY,List.take_zero,List.foldl_nil]
   exact St.aB (St.aB (St.aB (St.aB (le2 sS sS) sS) sS) sS) sS
 ·rintro⟨i,q0,ex0⟩ ⟨hi,D0,p1,p2⟩
  simp only at hi D0 p1 p2 ⊢
  have hW:=T7 Wh (es.take i)
  by_cases hlt:i<es.length
  ·obtain⟨x,hx⟩:=bW es hlt
   have hat:=bF (f:=ED.c) hx
   have hsn:=CQ bk1 (es.take i) x
   rw[←aP hx] at hsn
   obtain⟨W,hWe⟩:∃W,mY bk1 (es.take i)=W:=⟨_,rfl⟩
   rw[hWe] at hW hsn ⊢
   have hpd:=GS hW D0 ex0 x
   have hrd:=fun(o:Nat)=>AJ o hW x
   unfold DoD at hrd
   have hn1:bkS m l q0 b W ex0 nl1=none:=eA (by assumption) (by assumption) (Ne.symm p1) (by assumption)
   have hn2:bkS m l q0 b W ex0 nl2=none:=eA (by assumption) (by assumption) (Ne.symm p2) (by assumption)
   obtain⟨Z,hZ⟩:∃Z:aW,.row 41 5 [[.int .i64 0,.int .i64 0,.aN,.aN,.aN]]=Z:=⟨_,rfl⟩
   rw[hZ]
   repeat' first|((refine Uk (eR (eR (St.le_refl _) hn1) hn2) hpd ?_;intro q2 ex2 τ D2 hle2 hfr;obtain⟨f1,g1⟩:=hfr nl1 Z sS hn1;obtain⟨f2,g2⟩:=hfr nl2 (dO W) sS hn2;clear hfr))|(refine cZ (o:=dO W) (by assumption) (hrd _) ?_)|(refine wM ?_;(first|(have _:=nl2)|(have _:=nl1;intro nl2)|(intro nl1));intros)|refine wV ?_|(refine wY ?_ ?_<;>intro h)|refine wZ3 @FXs @hat @hml ?_|exact wC3 @FXs @hat @hml|fail
   all_goals (try (exfalso;omega))
   all_goals
    have g1':=Ne.symm g1
    have g2':=Ne.symm g2
    have k1:bkS m l q2 b (doB W x) ex2 nl1=none:=eA (by assumption) (by assumption) g1 (by assumption)
    have k2:bkS m l q2 b (doB W x) ex2 nl2=none:=eA (by assumption) (by assumption) g2 (by assumption)
    refine .of (.less ?_ (σ1:=((bkS m l q2 b (doB W x) ex2).set nl1 Z).set nl2 (dO (doB W x))) ?_) ⟨(i+1,q2,ex2),rfl,by simp only[hsn,←hZ],⟨by simp only;omega,D2,g1',g2'⟩,by simp only;omega⟩
    ·exact wW
    ·exact St.aB (St.aB (eR hle2 k2) (by rw[aF _ _ _ _ n21];exact f1)) (aD _ _ _)
  ·obtain rfl:i=es.length:=by omega
   rw[List.take_length] at hW ⊢
   obtain⟨W,hWe⟩:∃W,mY bk1 es=W:=⟨_,rfl⟩
   rw[hWe] at hW ⊢
   have hn1:bkS m l q0 b W ex0 nl1=none:=eA (by assumption) (by assumption) (Ne.symm p1) (by assumption)
   have hn2:bkS m l q0 b W ex0 nl2=none:=eA (by assumption) (by assumption) (Ne.symm p2) (by assumption)
   repeat' first|(refine wM ?_;(first|(have _:=nl2)|(have _:=nl1;intro nl2)|(intro nl1));intros)|refine wV ?_|(refine wY ?_ ?_<;>intro h)|refine wZ2 @FXs @hml ?_|exact wC2 @FXs @hml|fail
   all_goals (try (exfalso;omega))
   all_goals exact⟨m,l,q0,b,ex0,D0,rfl,eR (eR (St.le_refl _) hn1) hn2⟩
end

section
theorem Oe{fl:List ND}(hl:fl.length≤1000000)(tt:Bool)(mk:UInt32):aA Tryz.prog 15 [.nilp,.lst 5 (fl.map ND.c) tt,.int .u32 (mk.toNat:Int)] St.none (fun r _=>r=.nilp):=by
 refine aA.bR (mB 60 [.tmp 6] Tryz.func15 ?_)
 by_cases hp:bS fl=0
 ·have hpn:=sR fl hl tt hp
  repeat' first|(refine fQ hpn ?_;intro f hf)|(refine wO ?_;intros)|(refine wY ?_ ?_<;>intro h)|refine wZ1 @Tryz.f15.eq_1 ?_|exact wC1 @Tryz.f15.eq_1|fail
  all_goals exact lE
 ·have hpn:=CN fl hl tt hp
  repeat' first|(with_reducible first|refine up hpn ?_)|(refine wO ?_;intros)|(refine wY ?_ ?_<;>intro h)|refine wZ1 @Tryz.f15.eq_1 ?_|exact wC1 @Tryz.f15.eq_1|fail
  all_goals exact lE
theorem G7(f:Nat){fl:List ND}(hl:fl.length≤100000)(h0:0<fl.length)(d:Bool):aA Tryz.prog 39 [.ptr f 0 0] (St.none.set f (flD fl d)) (fun r σ'=>r=.lst 5 (fl.map ND.c) false∧σ'=St.none.set f (flD fl d)):=by
 have hc:=Is fl hl h0 false
 refine(mB 10 [.tmp 2] Tryz.func39 ?_)
 repeat' first|(with_reducible first|refine up hc ?_)|(refine wO ?_;intros)|(refine wY ?_ ?_<;>intro h)|refine wZ1 @Tryz.f39.eq_1 ?_|exact wC1 @Tryz.f39.eq_1|fail
 all_goals exact⟨rfl,rfl⟩
def lS(l:List ED):Bool:=decide (120<l.length) || l.any fun x=>pS x.p.f
theorem AB(l:List ED)(tt:Bool):aA Tryz.prog 56 [.lst 29 (l.map ED.c) tt] St.none (fun r _=>r=.bool (lS l)):=by
 refine aA.bR (mB 20 [.tmp 2] Tryz.func56 ?_)
 have hml:(l.map ED.c).length=l.length:=List.length_map _
 by_cases h:120<l.length
 ·have e:lS l=true:=by unfold lS;rw[decide_eq_true h];rfl
  rw[e]
  repeat' first|(refine wO ?_;intros)|(refine wY ?_ ?_<;>intro h)|refine wZ2 @Tryz.f56.eq_1 @hml ?_|exact wC2 @Tryz.f56.eq_1 @hml|fail
  all_goals exact lE
 ·repeat' first|(refine wO ?_;intros)|(refine wY ?_ ?_<;>intro h)|refine wZ2 @Tryz.f56.eq_1 @hml ?_|exact wC2 @Tryz.f56.eq_1 @hml|fail
  all_goals (try (exfalso;omega))
  refine aE (α:=Nat) (fun i=>⟨20,[(3,.int .i64 (i:Int)),(0,.lst 29 (l.map ED.c) tt)],[]⟩) (fun _=>St.none) (fun i=>i≤l.length∧(l.take i).any (fun x=>pS x.p.f)=false) (fun i=>l.length - i) (.of (.less ?_ (St.none_le _)) ⟨0,rfl,rfl,Nat.zero_le _,rfl⟩) ?_
  ·exact wW
  ·rintro i ⟨hi,hq⟩
   by_cases hlt:i<l.length
   ·obtain⟨x,hx⟩:=bW l hlt
    have hat:=bF (f:=ED.c) hx
    have hc:=D8 x.p.f
    have hnext:(l.take (i+1)).any (fun x=>pS x.p.f)=pS x.p.f:=by rw[aP hx,List.any_append,hq];simp
    obtain⟨b,hb⟩:∃b,pS x.p.f=b:=⟨_,rfl⟩
    rw[hb] at hc hnext
    cases b
    ·repeat' first|(with_reducible first|refine up hc ?_)|(refine wO ?_;intros)|(refine wY ?_ ?_<;>intro h)|refine wZ3 @FXs @hat @hml ?_|exact wC3 @FXs @hat @hml|fail
     all_goals (try (exfalso;omega))
     all_goals
      refine .of (.less ?_ (St.none_le _)) ⟨i+1,rfl,rfl,⟨by omega,hnext⟩,by omega⟩
      exact wW
    ·have e:lS l=true:=by
      unfold lS
      rw[Bool.or_eq_true]
      exact .inr (List.any_eq_true.2 ⟨x,List.mem_of_getElem? hx,hb⟩)
     rw[e]
     repeat' first|(with_reducible first|refine up hc ?_)|(refine wO ?_;intros)|(refine wY ?_ ?_<;>intro h)|refine wZ3 @FXs @hat @hml ?_|exact wC3 @FXs @hat @hml|fail
     all_goals exact lE
   ·obtain rfl:i=l.length:=by omega
    rw[List.take_length] at hq
    have e:lS l=false:=by unfold lS;rw[decide_eq_false h,hq];rfl
    rw[e]
    repeat' first|(refine wO ?_;intros)|(refine wY ?_ ?_<;>intro h)|refine wZ1 @hml ?_|exact wC1 @hml|fail
    all_goals exact lE
structure RU where
 fl:List ND
 mask:UInt32
 pre:List ED
 post:List ED
abbrev RU.c(x:RU):List MV:=[.lst 5 (x.fl.map ND.c) false,.int .u32 (x.mask.toNat:Int),.lst 29 (x.pre.map ED.c) false,.lst 29 (x.post.map ED.c) false]
theorem J9(x:RU):aA Tryz.prog 10 [.agg x.c] St.none (fun r _=>r=.bool (oD x.fl || lS x.pre || lS x.post)):=by
 refine aA.bR (mB 16 [.tmp 2] Tryz.func10 ?_)
 have h1:=Hy x.fl false
 have h2:=AB x.pre false
 have h3:=AB x.post false
 generalize oD x.fl=a at h1 ⊢
 generalize lS x.pre=b at h2 ⊢
 generalize lS x.post=c at h3 ⊢
 cases a<;>cases b<;>cases c
 all_goals
  repeat' first|(with_reducible first|refine up h1 ?_|refine up h2 ?_|refine up h3 ?_)|(refine wO ?_;intros)|(refine wY ?_ ?_<;>intro h)|refine wZ2 @Tryz.f10.eq_1 @FXs ?_|exact wC2 @Tryz.f10.eq_1 @FXs|fail
  all_goals exact lE
theorem LD:∀{cs:List CA} (j:Int),shG (shV cs) j=((cs.find? fun c=>decide (c.id=j)).getD ca0).ver
 | [],j=>rfl
 | c::cs,j=>by
  have ih:=LD (cs:=cs) j
  simp only[shV,List.map_cons,shG,List.find?_cons] at ih ⊢
  by_cases h:c.id=j
  ·simp[h]
  ·simp[h,ih]
theorem Sy{B:BK}(hb:BkW B)(fl:List ND):C3 B fl ⟨shV (shC B fl),B.sq,B.sq,[]⟩ where
 ch:=KH
 up:=.nil
 now:=fun t ht=>by cases ht
 tok:=fun t ht=>by cases ht
 idb:=fun t ht=>by cases ht
 new:=fun id v h=>by cases h
 key:=by
  have:(shV (shC B fl)).map (·.1)=rI B fl:=by unfold shV;rw[List.map_map];exact(PF B fl).symm
  rw[this]
  exact(PI hb fl).imp fun h=>by omega
 val:=fun p hp=>by
  obtain⟨c,hc,rfl⟩:=List.mem_map.1 hp
  obtain⟨⟨p1,p2,p3,p4,p5⟩,p6⟩:=fN (hb.cds c (List.mem_filter.1 hc).1).1
  simp only
  omega
 len:=Nat.zero_le _
 flo:=Int.le_refl _
 pos:=hb.sq1
 sqb:=fun t ht=>by cases ht
 at_:=rfl
 sh:=fun j=>by
  rw[LD]
  unfold cW shown
  cases hf:B.cards.find? (fun c=>decide (c.id=j)) with
  | none =>
   have:(shC B fl).find? (fun c=>decide (c.id=j))=none:=by
    rw[List.find?_eq_none] at hf ⊢
    exact fun c hc=>hf c (List.mem_filter.1 hc).1
   rw[this]
  | some c =>
   simp only
   by_cases hs:dW B.gr fl c=true
   ·rw[if_pos hs]
    have h1:=List.mem_of_find?_eq_some hf
    have h2:c.id=j:=by simpa using List.find?_some hf
    have hm:c∈shC B fl:=List.mem_filter.2 ⟨h1,hs⟩
    have hu:UpI ((shC B fl).map CA.id):=hb.ups.sublist (List.Sublist.map _ List.filter_sublist)
    obtain⟨y,-,q2,q3,q4⟩:=oC (f:=CA.id) hu (List.mem_map.2 ⟨c,hm,h2⟩)
    have:y=c:=yT (f:=CA.id) hu q4 hm (q2.trans h2.symm)
    rw[q3,this]
   ·rw[if_neg hs]
    have:(shC B fl).find? (fun c=>decide (c.id=j))=none:=by
     rw[List.find?_eq_none]
     intro d hd hj
     have hj:d.id=j:=by simpa using hj
     obtain⟨d1,d2⟩:=List.mem_filter.1 hd
     have h1:=List.mem_of_find?_eq_some hf
     have h2:c.id=j:=by simpa using List.find?_some hf
     have:d=c:=yT (f:=CA.id) hb.ups d1 h1 (hj.trans h2.symm)
     rw[this] at d2
     exact hs d2
    rw[this]
end

section
def DoZ(m l b:Nat)(B:BK)(x:ED)(v:MV)(σ':St):Prop:=∃q',dQ m l q' b∧v=.tup [doV B x,.int .i64 (doE B x)]∧σ'=bkS m l q' b (doB B x) []
theorem Ph{m l q b:Nat}{B:BK}{ex:List (List MV)}(D:dQ m l q b):(bkS m l q b B ex).set q (.row 197 3 (B.dead.map DE.c))=bkS m l q b B []:=by
 obtain⟨d1,d2,d3,d4,d5,d6⟩:=D
 simp only[bkS,shS,List.append_nil]
 funext j
 by_cases h1:j=q
 ·subst h1;simp[St.set,Ne.symm d6,d6]
 ·simp[St.set,h1]
theorem Uu{m l q b:Nat}{B:BK}{ex:List (List MV)}(D:dQ m l q b):bkS m l q b B ex q=some (.row 197 3 (B.dead.map DE.c++ex)):=by
 obtain⟨d1,d2,d3,d4,d5,d6⟩:=D
 simp[bkS,shS,St.set,d6,Ne.symm d6]
theorem N9{B:BK}(hb:BkW B){m l q b:Nat}(D:dQ m l q b)(ex:List (List MV))(x:ED):aA Tryz.prog 17 [.ptr b 0 0,.agg x.c] (bkS m l q b B ex) (DoZ m l b B x):=by
 refine aA.gh ((GS hb D ex x).mono ?_)
 rintro v σ' ⟨q',ex',D',rfl,rfl⟩
 refine .of (aV.cut (Uu D')) ⟨_,rfl,q',D',rfl,Ph D'⟩
theorem EP(es:List ED)(hl:es.length≤1000000)(tt:Bool):aA Tryz.prog 14 [.lst 29 (es.map ED.c) tt] St.none (fun r σ'=>∃m l q b,dQ m l q b∧r=.tup [.ptr b 0 0,.agg (mY bk1 es).c]∧σ'=bkS m l q b (mY bk1 es) []):=by
 refine aA.gh ((H7 es hl tt).mono ?_)
 rintro v σ' ⟨m,l,q,b,ex,D,rfl,rfl⟩
 exact .of (aV.cut (Uu D)) ⟨_,rfl,m,l,q,b,D,rfl,Ph D⟩
theorem View.Vr{σ:St}{a b:MV}(h:nT a b):View σ a b:=by
 cases h with
 | same=>exact .same _
 | junk=>exact .junk _
 | nil e t=>exact .nil e t
 | tight e xs=>exact .tight e xs
theorem aV.Wv{n:Nat}{l l1:List (Nat × MV)}{d:List (FuncId × List MV)}{σ:St}{b:Nat}{t:TypeId}{e:Nat}(pre post:List MV)(e':Nat)(tr:Bool)(hb:σ b=some (.row t e [pre++.aN::post]))(h:∀p,p∈l1→nT (cT l p.1) p.2) :
  aV ⟨n,l,d⟩ σ ⟨n,l1,d⟩ (σ.set b (.row t e [pre++.lst e' [] tr::post])):=by
 refine aV.pO St.none (St.none_le _) (fun k o1 hk=>?_) (fun k o hk=>rfl) (fun p hp=>View.Vr (h p hp))
 by_cases e1:k=b
 ·subst e1
  rw[aD] at hk
  cases hk
  refine⟨_,hb,.inr ⟨t,e,_,_,rfl,rfl,rfl,fun i x x1 hx hx1=>?_⟩⟩
  match i with
  | 0 =>
   simp only[List.getElem?_cons_zero,Option.some.injEq] at hx hx1
   subst hx hx1
   refine⟨by simp,fun j a b ha hb=>?_⟩
   by_cases hj:j<pre.length
   ·rw[List.getElem?_append_left hj] at ha hb
    rw[ha] at hb;cases hb
    exact .inl rfl
   ·rw[List.getElem?_append_right oM] at ha hb
    match hk:j - pre.length with
    | 0 =>
     rw[hk] at ha hb
     simp only[List.getElem?_cons_zero,Option.some.injEq] at ha hb
     subst ha hb
     exact .inr ⟨rfl,.nil _ _⟩
    | k+1 =>
     rw[hk] at ha hb
     simp only[List.getElem?_cons_succ] at ha hb
     rw[ha] at hb;cases hb
     exact .inl rfl
  | i+1=>simp at hx
 ·rw[aF _ _ _ _ e1] at hk
  exact⟨o1,hk,.inl rfl⟩
theorem nR{P:Program}{g:FuncId}{ms:List MV}{σ τ:St}{Q:MV→St→Prop}{k:MV→St→Prop}(hb:τ.le σ)(h:aA P g ms τ Q)
 (hk:∀v τ' σ',Q v τ'→τ'.le σ'→(∀j o,σ j=some o→τ j=none→σ' j=some o∧τ' j=none)→R (bY v σ' k)):R (cU P g ms σ k) :=
 bJ h hb fun v σ' hv hf=>by
  refine hk v σ' _ hv (kW _ _) fun j o hj hn=>?_
  have hq:σ' j=none:=by
   cases hc:σ' j with
   | none=>rfl
   | some o' =>
    rcases hf j o' hc with h1|⟨o'',h1⟩
    ·rw[hj] at h1;cases h1
    ·rw[hn] at h1;cases h1
  refine⟨?_,hq⟩
  unfold St.over St.minus
  rw[hq,hn]
  exact hj
theorem Ee{B:BK}(hb:BkW B){x:ED}{fl:List ND}(hp:bS fl=0){mk:UInt32}{m l q b f sm g v:Nat}(V:kT m l q b f sm g v)(d:Bool)(z:VS)(hz:z.log.length≤40)(ex:List (List MV)) :
  aA Tryz.prog 18 [.ptr v 0 0,.ptr b 0 0,doV B x] (vwS m l q b (doB B x) f fl d sm g v mk z ex) (fun _ σ'=>∃d' g' ex',kT m l q b f sm g' v∧σ'=vwS m l q b (doB B x) f fl d' sm g' v mk (fG (doB B x) fl mk z (cV B.sq (doC B x))) ex'):=by
 have hw:=doW hb x
 have hn:(cV B.sq (doC B x)).length≤1000000:=by
  rw[l5]
  rcases kB hb x [] with⟨-,e2,-⟩|⟨-,i,e2,-⟩|⟨-,e2,-⟩
  ·rw[e2];simp
  ·rw[e2];simp
  ·have:=pV hb x.gr
   rw[e2,List.length_append,List.length_singleton];omega
 have hs:=qB hw.toBkR (by have:=hw.ng;omega) (fun g hg=>by have:=hw.nm g hg;omega) (by have:=hw.nd;omega) hp V d z hz ex (cV B.sq (doC B x)) hn false (mk:=mk)
 unfold doV
 by_cases h0:doE B x=0
 ·rw[if_pos h0,←Ey]
  exact hs
 ·rw[if_neg h0]
  have:doC B x=[]:=by
   rcases kB hb x [] with⟨-,e2,-⟩|⟨e1,-⟩|⟨e1,-⟩
   ·exact e2
   ·exact absurd e1 h0
   ·exact absurd e1 h0
  rw[this] at hs ⊢
  refine aA.pre (ms':=[.ptr v 0 0,.ptr b 0 0,.lst 2 [] false]) rfl (aV.less (fun p hp=>?_) (St.le_refl _)) hs
  simp only[gZ,List.mem_cons,List.not_mem_nil,or_false] at hp
  rcases hp with rfl|rfl|rfl
  ·exact .same _
  ·exact .same _
  ·exact .nil _ _
end

section
theorem Wi{m l q b f sm g v:Nat}{B:BK}{fl:List ND}{d:Bool}{mk:UInt32}{z:VS}{ex:List (List MV)}(V:kT m l q b f sm g v):(bkS m l q b B []).le (vwS m l q b B f fl d sm g v mk z ex):=by
 obtain⟨D,⟨f1,f2,f3,f4⟩,⟨s1,s2,s3,s4,s5⟩,⟨g1,g2,g3,g4,g5,g6⟩,⟨v1,v2,v3,v4,v5,v6,v7⟩⟩:=V
 exact eR (eR (eR (eR (St.le_refl _) (eA f1 f2 f3 f4)) (eA s1 s2 s3 s4)) (eA g1 g2 g3 g4)) (eA v1 v2 v3 v4)
theorem lB{m l q b f sm g v:Nat}{B:BK}{fl:List ND}{d:Bool}{mk:UInt32}{z:VS}{ex:List (List MV)}{j:Nat}:vwS m l q b B f fl d sm g v mk z ex j=none↔j≠v∧j≠g∧j≠sm∧j≠f∧j≠b∧j≠q∧j≠l∧j≠m:=by
 simp only[aU]
 exact⟨fun⟨a,b,c,d,e,f,g,h,_⟩=>⟨a,b,c,d,e,f,g,h⟩,fun⟨a,b,c,d,e,f,g,h⟩=>⟨a,b,c,d,e,f,g,h,rfl⟩⟩
theorem Ur{m l q q' b f sm g v:Nat}{B B':BK}{fl:List ND}{d:Bool}{mk:UInt32}{z:VS}{ex:List (List MV)}{τ:St}(V:kT m l q b f sm g v)(D':dQ m l q' b)(h1:(bkS m l q' b B' []).le τ)(h2:∀j o,vwS m l q b B f fl d sm g v mk z ex j=some o→bkS m l q b B [] j=none→τ j=some o∧bkS m l q' b B' [] j=none) :
  kT m l q' b f sm g v∧(vwS m l q' b B' f fl d sm g v mk z ex).le τ:=by
 obtain⟨D,⟨f1,f2,f3,f4⟩,⟨s1,s2,s3,s4,s5⟩,⟨g1,g2,g3,g4,g5,g6⟩,⟨v1,v2,v3,v4,v5,v6,v7⟩⟩:=V
 have a1:=h2 v _ (aD _ _ _) (eA v1 v2 v3 v4)
 have a2:=h2 g (lgO z.log ex) (by simp[St.set,Ne.symm v7]) (eA g1 g2 g3 g4)
 have a3:=h2 sm (.mp (shE z.sh)) (by simp[St.set,Ne.symm v6,Ne.symm g6]) (eA s1 s2 s3 s4)
 have a4:=h2 f (flD fl d) (by simp[St.set,Ne.symm v5,Ne.symm g5,Ne.symm s5]) (eA f1 f2 f3 f4)
 obtain⟨b1,c1⟩:=a1
 obtain⟨b2,c2⟩:=a2
 obtain⟨b3,c3⟩:=a3
 obtain⟨b4,c4⟩:=a4
 refine⟨⟨D',?_,?_,?_,?_⟩,St.aB (St.aB (St.aB (St.aB h1 b4) b3) b2) b1⟩
 ·simp only[aU] at c4;exact⟨f1,f2,c4.2.1,f4⟩
 ·simp only[aU] at c3;exact⟨s1,s2,c3.2.1,s4,s5⟩
 ·simp only[aU] at c2;exact⟨g1,g2,c2.2.1,g4,g5,g6⟩
 ·simp only[aU] at c1;exact⟨v1,v2,c1.2.1,v4,v5,v6,v7⟩
noncomputable abbrev kS(m l q b:Nat)(B:BK)(f:Nat)(fl:List ND)(d:Bool)(sm g v:Nat)(mk:UInt32)(z:VS)(ex:List (List MV))(n1 n2 n3 n4:Nat)(X Y:aW)(w:VS):St:=((((vwS m l q b B f fl d sm g v mk z ex).set n1 X).set n2 Y).set n3 (dO B)).set n4 (dvO fl false mk w)
theorem yK(x:RU)(a b c t:Int):aA Tryz.prog 5 [.agg x.c,.agg [.int .i64 a,.int .i64 b,.int .i64 c,.int .i64 t]] St.none (fun r _=>r=.bool true):=by
 refine aA.bR (mB 172 [.tmp 4] Tryz.func5 ?_)
 have hsk:=J9 x
 have haw:=C6
 obtain⟨sk,hsk'⟩:∃z,(oD x.fl || lS x.pre || lS x.post)=z:=⟨_,rfl⟩
 rw[hsk'] at hsk
 cases sk
 rotate_left
 ·repeat' first|(refine aC hsk ?_)|(refine aC haw ?_)|(refine wM ?_;(first|(have _:=nl4)|(have _:=nl3;intro nl4)|(have _:=nl2;intro nl3)|(have _:=nl1;intro nl2)|(intro nl1));intros)|refine wV ?_|(refine wY ?_ ?_<;>intro h)|refine wZ4 @Tryz.f5.eq_1 @FXs @List.map_cons.{0,0} @List.map_nil.{0,0} ?_|exact wC4 @Tryz.f5.eq_1 @FXs @List.map_cons.{0,0} @List.map_nil.{0,0}|fail
  all_goals exact lE
 ·simp only[Bool.or_eq_false_iff] at hsk'
  obtain⟨⟨k1,k2⟩,k3⟩:=hsk'
  have hfl:x.fl.length≤1000:=by unfold oD at k1;simp only[Bool.or_eq_false_iff,decide_eq_false_iff_not] at k1;omega
  have hpre:x.pre.length≤120:=by unfold lS at k2;simp only[Bool.or_eq_false_iff,decide_eq_false_iff_not] at k2;omega
  have hpost:x.post.length≤120:=by unfold lS at k3;simp only[Bool.or_eq_false_iff,decide_eq_false_iff_not] at k3;omega
  clear k1 k2 k3
  have hbeg:=EP x.pre oM false
  have hB0:=T7 Wh x.pre
  obtain⟨B0,hB0e⟩:∃B0,mY bk1 x.pre=B0:=⟨_,rfl⟩
  rw[hB0e] at hbeg hB0
  have hpc:=El x.fl false
  have hmc:=uM x.mask
  have hnn:=Oe (fl:=x.fl) oM false x.mask
  repeat' first|(refine aC hsk ?_)|(refine wM ?_;(first|(have _:=nl4)|(have _:=nl3;intro nl4)|(have _:=nl2;intro nl3)|(have _:=nl1;intro nl2)|(intro nl1));intros)|refine wV ?_|(refine wY ?_ ?_<;>intro h)|refine wZ4 @Tryz.f5.eq_1 @FXs @List.map_cons.{0,0} @List.map_nil.{0,0} ?_|exact wC4 @Tryz.f5.eq_1 @FXs @List.map_cons.{0,0} @List.map_nil.{0,0}|fail
  refine nR (St.none_le _) hbeg ?_
  rintro _ τ' τ ⟨m,l,q,bb,D,rfl,rfl⟩ hle hfr
  obtain⟨x1,y1⟩:=hfr nl1 _ (by simp[St.set, *];rfl) rfl
  obtain⟨x2,y2⟩:=hfr nl2 _ (by simp[St.set, *];rfl) rfl
  simp only[aU] at y1 y2
  clear hfr
  repeat' first|(refine wM ?_;(first|(have _:=nl4)|(have _:=nl3;intro nl4)|(have _:=nl2;intro nl3)|(have _:=nl1;intro nl2)|(intro nl1));intros)|refine wV ?_|(refine wY ?_ ?_<;>intro h)|refine wZ5 @FXs @x1 @x2 @List.map_cons.{0,0} @List.map_nil.{0,0} ?_|exact wC5 @FXs @x1 @x2 @List.map_cons.{0,0} @List.map_nil.{0,0}|fail
  have hn3:τ nl3=none:=by assumption
  have n31:nl3≠nl1:=fun e=>by rw[e,x1] at hn3;cases hn3
  have n32:nl3≠nl2:=fun e=>by rw[e,x2] at hn3;cases hn3
  have n13:=Ne.symm n31
  have n23:=Ne.symm n32
  by_cases hok:bS x.fl=0∧x.mask.toNat≤511
  rotate_left
  ·have hbad:=Od (B:=B0) bb (fl:=x.fl) oM false (mk:=x.mask) hok
   by_cases hpe:bS x.fl=0
   ·have hm:¬x.mask.toNat≤511:=fun h=>hok ⟨hpe,h⟩
    rw[hpe] at hpc
    rw[decide_eq_false hm] at hmc
    repeat' first|(refine aC hbad ?_)|(refine aC hpc ?_)|(refine aC hmc ?_)|(refine aC hnn ?_)|(refine aC haw ?_)|(refine wM ?_;(first|(have _:=nl4)|(have _:=nl3;intro nl4)|(have _:=nl2;intro nl3)|(have _:=nl1;intro nl2)|(intro nl1));intros)|refine wV ?_|(refine wY ?_ ?_<;>intro h)|refine wZ5 @FXs @x1 @x2 @List.map_cons.{0,0} @List.map_nil.{0,0} ?_|exact wC5 @FXs @x1 @x2 @List.map_cons.{0,0} @List.map_nil.{0,0}|fail
    all_goals first|exact⟨_,St.none_le _,rfl⟩|exact⟨_,St.none_le _⟩|exact⟨_,St.le_refl _,rfl⟩|exact⟨_,St.le_refl _⟩|(exfalso;omega)
   ·repeat' first|(refine aC hbad ?_)|(refine aC hpc ?_)|(refine aC hmc ?_)|(refine aC hnn ?_)|(refine aC haw ?_)|(refine wM ?_;(first|(have _:=nl4)|(have _:=nl3;intro nl4)|(have _:=nl2;intro nl3)|(have _:=nl1;intro nl2)|(intro nl1));intros)|refine wV ?_|(refine wY ?_ ?_<;>intro h)|refine wZ5 @FXs @x1 @x2 @List.map_cons.{0,0} @List.map_nil.{0,0} ?_|exact wC5 @FXs @x1 @x2 @List.map_cons.{0,0} @List.map_nil.{0,0}|fail
    all_goals trace_state
    all_goals first|exact⟨_,St.none_le _,rfl⟩|exact⟨_,St.none_le _⟩|exact⟨_,St.le_refl _,rfl⟩|exact⟨_,St.le_refl _⟩|(exfalso;omega)
  ·obtain⟨hpe,hmk⟩:=hok
   have hgl:B0.gr.length≤1000000:=by have:=hB0.ng;omega
   have hgm:∀g,g∈B0.gr→g.mem.length≤1000000:=fun g hg=>by have:=hB0.nm g hg;omega
   have hvn:=xS hB0.toBkR hgl hgm D hpe false hmk
   rw[hpe] at hpc
   rw[decide_eq_true hmk] at hmc
   repeat' first|(refine wM ?_;(first|(have _:=nl4)|(have _:=nl3;intro nl4)|(have _:=nl2;intro nl3)|(have _:=nl1;intro nl2)|(intro nl1));intros)|refine wV ?_|(refine wY ?_ ?_<;>intro h)|refine wZ5 @FXs @x1 @x2 @List.map_cons.{0,0} @List.map_nil.{0,0} ?_|exact wC5 @FXs @x1 @x2 @List.map_cons.{0,0} @List.map_nil.{0,0}|fail
   have hbn:∀{j:Nat},τ j=none→bkS m l q bb B0 [] j=none:=fun {j} hj=>by
    cases hc:bkS m l q bb B0 [] j with
    | none=>rfl
    | some o=>rw[hle j o hc] at hj;cases hj
   have y3:=hbn hn3
   simp only[aU] at y3
   refine nR (eR hle (hbn hn3)) hvn ?_
   rintro _ τ' τ2 ⟨f,sm,g,v,d,V,rfl,rfl⟩ hle2 hfr2
   have v0:=Sy hB0 x.fl
   obtain⟨z0,hz0⟩:∃z0:VS,(⟨shV (shC B0 x.fl),B0.sq,B0.sq,[]⟩:VS)=z0:=⟨_,rfl⟩
   have z0l:z0.log=[]∧z0.floor=B0.sq∧z0.now=B0.sq:=by rw[←hz0];exact⟨rfl,rfl,rfl⟩
   rw[hz0] at v0 hle2 hfr2
   obtain⟨w1,u1⟩:=hfr2 nl1 _ ((aF _ _ _ _ n13).trans x1) (by simp only[aU];exact y1)
   obtain⟨w2,u2⟩:=hfr2 nl2 _ ((aF _ _ _ _ n23).trans x2) (by simp only[aU];exact y2)
   obtain⟨w3,u3⟩:=hfr2 nl3 _ (aD _ _ _) (by simp only[aU];exact y3)
   clear hfr2 hle x1 x2
   repeat' first|(refine aC hpc ?_)|(refine aC hmc ?_)|(refine aC hnn ?_)|(refine wM ?_;(first|(have _:=nl4)|(have _:=nl3;intro nl4)|(have _:=nl2;intro nl3)|(have _:=nl1;intro nl2)|(intro nl1));intros)|refine wV ?_|(refine wY ?_ ?_<;>intro h)|refine wZ6 @FXs @w1 @w2 @w3 @List.map_cons.{0,0} @List.map_nil.{0,0} ?_|exact wC6 @FXs @w1 @w2 @w3 @List.map_cons.{0,0} @List.map_nil.{0,0}|fail
   all_goals (try (exfalso;omega))
   have hn4:τ2 nl4=none:=by assumption
   have n41:nl4≠nl1:=fun e=>by rw[e,w1] at hn4;cases hn4
   have n42:nl4≠nl2:=fun e=>by rw[e,w2] at hn4;cases hn4
   have n43:nl4≠nl3:=fun e=>by rw[e,w3] at hn4;cases hn4
   have n14:=Ne.symm n41
   have n24:=Ne.symm n42
   have n34:=Ne.symm n43
   have n12:nl1≠nl2:=by assumption
   have n21:=Ne.symm n12
   have u4:vwS m l q bb B0 f x.fl d sm g v x.mask z0 [] nl4=none:=by
    cases hc:vwS m l q bb B0 f x.fl d sm g v x.mask z0 [] nl4 with
    | none=>rfl
    | some o=>rw[hle2 nl4 o hc] at hn4;cases hn4
   obtain⟨X,hX⟩:∃X:aW,.row 26 4 [x.c]=X:=⟨_,rfl⟩
   obtain⟨Y,hY⟩:∃Y:aW,.row 28 4 [[.int .i64 a,.int .i64 b,.int .i64 c,.int .i64 t]]=Y:=⟨_,rfl⟩
   rw[hX] at w1
   rw[hY] at w2
   refine aE (α:=Nat × Nat × Bool × Nat × VS × List (List MV) × VS) (fun s=>⟨172,[(9,.int .i64 (s.1:Int)),(8,.ptr nl4 0 0),(7,.ptr v 0 0),(6,.ptr nl3 0 0),(5,.ptr bb 0 0),(2,.ptr nl1 0 0),(3,.ptr nl2 0 0)],[]⟩)
    (fun s=>kS m l s.2.1 bb (mY B0 (x.post.take s.1)) f x.fl s.2.2.1 sm s.2.2.2.1 v x.mask s.2.2.2.2.1 s.2.2.2.2.2.1 nl1 nl2 nl3 nl4 X Y s.2.2.2.2.2.2) (fun s=>s.1≤x.post.length∧kT m l s.2.1 bb f sm s.2.2.2.1 v∧C3 (mY B0 (x.post.take s.1)) x.fl s.2.2.2.2.1∧o7 s.2.2.2.2.1 s.2.2.2.2.2.2∧∀j,j=nl1∨j=nl2∨j=nl3∨j=nl4→vwS m l s.2.1 bb (mY B0 (x.post.take s.1)) f x.fl s.2.2.1 sm s.2.2.2.1 v x.mask s.2.2.2.2.1 s.2.2.2.2.2.1 j=none) (fun s=>x.post.length - s.1) ?_ ?_
   ·refine .step (aV.Wv (b:=nl4) (t:=84) (e:=5) (l1:=[(9,.int .i64 0),(8,.ptr nl4 0 0),(7,.ptr v 0 0),(6,.ptr nl3 0 0),(5,.ptr bb 0 0),(2,.ptr nl1 0 0),(3,.ptr nl2 0 0)]) [.lst 5 (x.fl.map ND.c) false,.int .u32 (x.mask.toNat:Int),.int .i64 B0.sq,.int .i64 B0.sq] [] 31 false (aD _ _ _) ?_) (.of (aV.drop (σ1:=kS m l q bb B0 f x.fl d sm g v x.mask z0 [] nl1 nl2 nl3 nl4 X Y z0) ?_) ⟨(0,q,d,g,z0,[],z0),rfl,rfl,Nat.zero_le _,V,v0,⟨rfl,rfl,rfl⟩,?_⟩)
    ·exact wW
    ·refine St.aB (St.aB (St.aB (St.aB (eR (eR hle2 u4) u4) ?_) ?_) ?_) ?_
     ·simp[St.set, *]
     ·simp[St.set, *]
     ·simp[St.set, *]
     ·rw[aD,dvO,dvC,z0l.1,z0l.2.1,z0l.2.2];rfl
    ·rintro j (rfl|rfl|rfl|rfl)
     ·exact u1
     ·exact u2
     ·exact u3
     ·exact u4
   ·clear hle2 w1 w2 w3 u1 u2 u3 u4 hn4 hn3 V D v0 z0l hz0
    rintro⟨i,q1,d1,g1,z,ex,w⟩ ⟨hi,V1,hV,h3,hno⟩
    simp only at hi V1 hV h3 hno ⊢
    have o1:=hno nl1 (.inl rfl)
    have o2:=hno nl2 (.inr (.inl rfl))
    have o3:=hno nl3 (.inr (.inr (.inl rfl)))
    have o4:=hno nl4 (.inr (.inr (.inr rfl)))
    clear hno
    by_cases hlt:i<x.post.length
    ·obtain⟨e,he⟩:=bW x.post hlt
     have hat:=bF (f:=ED.c) he
     have hml:(x.post.map ED.c).length=x.post.length:=List.length_map _
     have hW:=T7 hB0 (x.post.take i)
     have hsn:=CQ B0 (x.post.take i) e
     rw[←aP he] at hsn
     obtain⟨W,hWe⟩:∃W,mY B0 (x.post.take i)=W:=⟨_,rfl⟩
     rw[hWe] at hW hsn hV o1 o2 o3 o4 ⊢
     have hpd:=N9 hW V1.D [] e
     have hde:=Iv nl4 nl3 n43 hW hpe false x.mask w (by rw[←h3.2.2];exact hV.len) e
     obtain⟨hV2,h32⟩:=Mo hW hV h3 e (mk:=x.mask)
     have hlen:=hV.len
     have hbk:∀{j:Nat},vwS m l q1 bb W f x.fl d1 sm g1 v x.mask z ex j=none→bkS m l q1 bb W [] j=none:=fun h=>by
      have:=lB.1 h
      exact eA this.2.2.2.2.2.2.2 this.2.2.2.2.2.2.1 this.2.2.2.2.2.1 this.2.2.2.2.1
     have hlek:(vwS m l q1 bb W f x.fl d1 sm g1 v x.mask z ex).le (kS m l q1 bb W f x.fl d1 sm g1 v x.mask z ex nl1 nl2 nl3 nl4 X Y w):=eR (eR (eR (eR (St.le_refl _) o1) o2) o3) o4
     have c1:kS m l q1 bb W f x.fl d1 sm g1 v x.mask z ex nl1 nl2 nl3 nl4 X Y w nl1=some (.row 26 4 [x.c]):=by simp[kS,St.set, *]
     have c2:kS m l q1 bb W f x.fl d1 sm g1 v x.mask z ex nl1 nl2 nl3 nl4 X Y w nl2=some Y:=by simp[kS,St.set, *]
     have c3:kS m l q1 bb W f x.fl d1 sm g1 v x.mask z ex nl1 nl2 nl3 nl4 X Y w nl3=some (dO W):=by simp[kS,St.set, *]
     have c4:kS m l q1 bb W f x.fl d1 sm g1 v x.mask z ex nl1 nl2 nl3 nl4 X Y w nl4=some (dvO x.fl false x.mask w):=by simp[kS,St.set]
     obtain⟨τ0,hτ0⟩:∃τ0,kS m l q1 bb W f x.fl d1 sm g1 v x.mask z ex nl1 nl2 nl3 nl4 X Y w=τ0:=⟨_,rfl⟩
     rw[hτ0] at hlek c1 c2 c3 c4 ⊢
     clear hτ0 he hV
     repeat' first|(refine wM ?_;(first|(have _:=nl4)|(have _:=nl3;intro nl4)|(have _:=nl2;intro nl3)|(have _:=nl1;intro nl2)|(intro nl1));intros)|refine wV ?_|(refine wY ?_ ?_<;>intro h)|refine wZ9 @FXs @hat @hml @c1 @c2 @c3 @c4 @List.map_cons.{0,0} @List.map_nil.{0,0} ?_|simp(maxSteps:=4000000) (disch:=first|exact ddL|fail) only[go_sem,simprocAttr,FXs,hat,hml,c1,c2,c3,c4,List.map_cons,List.map_nil]|fail
     all_goals (try (exfalso;omega))
     refine nR (fun j o hj=>hlek j o (Wi V1 j o hj)) hpd ?_
     rintro _ τ' τa ⟨q2,D2,rfl,rfl⟩ hlea hfra
     obtain⟨V2,hle2⟩:=Ur V1 D2 hlea (fun j o hj hn=>hfra j o (hlek j o hj) hn)
     obtain⟨a1,b1⟩:=hfra nl1 _ c1 (hbk o1)
     obtain⟨a2,b2⟩:=hfra nl2 _ c2 (hbk o2)
     obtain⟨a3,b3⟩:=hfra nl3 _ c3 (hbk o3)
     obtain⟨a4,b4⟩:=hfra nl4 _ c4 (hbk o4)
     have hvn:∀{j:Nat},vwS m l q1 bb W f x.fl d1 sm g1 v x.mask z ex j=none→bkS m l q2 bb (doB W e) [] j=none→vwS m l q2 bb (doB W e) f x.fl d1 sm g1 v x.mask z ex j=none:=fun h h'=>by
      obtain⟨e1,e2,e3,e4,e5,e6,e7,e8⟩:=lB.1 h
      simp only[aU] at h'
      exact lB.2 ⟨e1,e2,e3,e4,e5,h'.2.1,e7,e8⟩
     have p1:=hvn o1 b1
     have p2:=hvn o2 b2
     have p3:=hvn o3 b3
     have p4:=hvn o4 b4
     clear hfra hlek c1 c2 c3 c4 hbk hvn o1 o2 o3 o4 b1 b2 b3 b4 hpd V1 hlea
     obtain⟨VV,hVV⟩:∃V,doV W e=V:=⟨_,rfl⟩
     obtain⟨EE,hEE⟩:∃E,doE W e=E:=⟨_,rfl⟩
     rw[hVV,hEE] at hde ⊢
     repeat' first|(refine wM ?_;(first|(have _:=nl4)|(have _:=nl3;intro nl4)|(have _:=nl2;intro nl3)|(have _:=nl1;intro nl2)|(intro nl1));intros)|refine wV ?_|(refine wY ?_ ?_<;>intro h)|refine wZ9 @FXs @hat @hml @a1 @a2 @a3 @a4 @List.map_cons.{0,0} @List.map_nil.{0,0} ?_|simp(maxSteps:=4000000) (disch:=first|exact ddL|fail) only[go_sem,simprocAttr,FXs,hat,hml,a1,a2,a3,a4,List.map_cons,List.map_nil]|fail
     all_goals (try (exfalso;omega))
     refine nR (le2 a3 a4) hde ?_
     rintro _ τ' τb ⟨rfl,rfl⟩ hleb hfrb
     have hno34:∀{j:Nat},j≠nl3→j≠nl4→((St.none.set nl3 (dO W)).set nl4 (dvO x.fl false x.mask w)) j=none:=fun h h'=>by rw[aF _ _ _ _ h',aF _ _ _ _ h];rfl
     have hle3:(vwS m l q2 bb (doB W e) f x.fl d1 sm g1 v x.mask z ex).le τb:=fun j o hj=>(hfrb j o (hle2 j o hj) (hno34 (fun h=>by subst h;rw[p3] at hj;cases hj) (fun h=>by subst h;rw[p4] at hj;cases hj))).1
     have b1:=(hfrb nl1 _ a1 (hno34 n13 n14)).1
     have b2:=(hfrb nl2 _ a2 (hno34 n23 n24)).1
     have b3:=hleb nl3 _ ((aF _ _ _ _ n34).trans (aD _ _ _))
     have b4:=hleb nl4 _ (aD _ _ _)
     clear hfrb hno34 hleb hle2 a1 a2 a3 a4 hde
     have hst:=Ee hW (x:=e) hpe V2 d1 z hlen ex (mk:=x.mask)
     rw[hVV] at hst
     obtain⟨w2,hw2⟩:∃w2,kC x.fl x.mask w W (dX W e) (cV W.sq (doC W e))=w2:=⟨_,rfl⟩
     rw[hw2] at b4 h32
     obtain⟨z2,hz2⟩:∃z2,fG (doB W e) x.fl x.mask z (cV W.sq (doC W e))=z2:=⟨_,rfl⟩
     rw[hz2] at hst hV2 h32
     have hW2:=doW hW e
     obtain⟨W2,hW2e⟩:∃W2,doB W e=W2:=⟨_,rfl⟩
     rw[hW2e] at hst hV2 hle3 p1 p2 p3 p4 b3 hW2 hsn
     repeat' first|(refine wM ?_;(first|(have _:=nl4)|(have _:=nl3;intro nl4)|(have _:=nl2;intro nl3)|(have _:=nl1;intro nl2)|(intro nl1));intros)|refine wV ?_|(refine wY ?_ ?_<;>intro h)|refine wZ9 @FXs @hat @hml @b1 @b2 @b3 @b4 @List.map_cons.{0,0} @List.map_nil.{0,0} ?_|simp(maxSteps:=4000000) (disch:=first|exact ddL|fail) only[go_sem,simprocAttr,FXs,hat,hml,b1,b2,b3,b4,List.map_cons,List.map_nil]|fail
     all_goals (try (exfalso;omega))
     refine nR hle3 hst ?_
     rintro _ τ' τc ⟨d3,g3,ex3,V3,rfl⟩ hlec hfrc
     obtain⟨c1,s1⟩:=hfrc nl1 _ b1 p1
     obtain⟨c2,s2⟩:=hfrc nl2 _ b2 p2
     obtain⟨c3,s3⟩:=hfrc nl3 _ b3 p3
     obtain⟨c4,s4⟩:=hfrc nl4 _ b4 p4
     clear hfrc b1 b2 b3 b4 p1 p2 p3 p4 hst hle3
     have hdd:=lM W2
     have hsm:=xP (f:=f) V3.hg.2.2.2.2.2 V3.hv.2.2.2.2.2.1 V3.hv.2.2.2.2.2.2 (mk:=x.mask) hW2 hpe false hV2 ex3 h32 false
     have l1:τc v=some (vwO f x.mask sm z2.floor z2.now (.vec 31 g3 0 z2.log.length)):=hlec v _ (aD _ _ _)
     have l2:τc g3=some (lgO z2.log ex3):=hlec g3 _ ((aF _ _ _ _ (Ne.symm V3.hv.2.2.2.2.2.2)).trans (aD _ _ _))
     have l3:τc sm=some (.mp (shE z2.sh)):=hlec sm _ ((aF _ _ _ _ (Ne.symm V3.hv.2.2.2.2.2.1)).trans ((aF _ _ _ _ (Ne.symm V3.hg.2.2.2.2.2)).trans (aD _ _ _)))
     obtain⟨C,k1,k2⟩:=kw2 16 ⟨[],fun v=>v=.agg W2.c,none⟩ 34 ⟨[v,g3,sm],fun v=>v=.bool true,none⟩
     repeat' first|(refine aI mixed dK C ?_)|(with_reducible refine aG (k1 _) hdd ?_)|(refine eK [v,g3,sm] [vwO f x.mask sm z2.floor z2.now (.vec 31 g3 0 z2.log.length),lgO z2.log ex3,.mp (shE z2.sh)] (k2 _) (by simp[l1,l2,l3]) hsm ?_)|(refine wM ?_;(first|(have _:=nl4)|(have _:=nl3;intro nl4)|(have _:=nl2;intro nl3)|(have _:=nl1;intro nl2)|(intro nl1));intros)|refine wV ?_|(refine wY ?_ ?_<;>intro h)|refine wZ7 @FXs @c1 @c2 @c3 @c4 @List.map_cons.{0,0} @List.map_nil.{0,0} ?_|exact wC7 @FXs @c1 @c2 @c3 @c4 @List.map_cons.{0,0} @List.map_nil.{0,0}|fail
     all_goals (try (exfalso;omega))
     all_goals
      refine .of (.less ?_ (σ1:=kS m l q2 bb W2 f x.fl d3 sm g3 v x.mask z2 ex3 nl1 nl2 nl3 nl4 X Y w2) ?_) ⟨(i+1,q2,d3,g3,z2,ex3,w2),rfl,by simp only[hsn],⟨by simp only;omega,V3,by simp only[hsn];exact hV2,h32,?_⟩,by simp only;omega⟩
      ·exact wW
      ·refine St.aB (St.aB (St.aB (St.aB (fun j o hj=>?_) ?_) ?_) ?_) ?_
       ·exact hlec j o hj
       ·rw[←hX];exact c1
       ·exact c2
       ·exact c3
       ·exact c4
      ·rw[hsn]
       rintro j (rfl|rfl|rfl|rfl)
       ·exact s1
       ·exact s2
       ·exact s3
       ·exact s4
    ·obtain rfl:i=x.post.length:=by omega
     rw[List.take_length] at hV o1 o2 o3 o4 ⊢
     have hml:(x.post.map ED.c).length=x.post.length:=List.length_map _
     have hW:=T7 hB0 x.post
     obtain⟨W,hWe⟩:∃W,mY B0 x.post=W:=⟨_,rfl⟩
     rw[hWe] at hW hV o1 o2 o3 o4 ⊢
     have c1:kS m l q1 bb W f x.fl d1 sm g1 v x.mask z ex nl1 nl2 nl3 nl4 X Y w nl1=some (.row 26 4 [x.c]):=by simp[kS,St.set, *]
     obtain⟨τ0,hτ0⟩:∃τ0,kS m l q1 bb W f x.fl d1 sm g1 v x.mask z ex nl1 nl2 nl3 nl4 X Y w=τ0:=⟨_,rfl⟩
     rw[hτ0] at c1 ⊢
     repeat' first|(refine wM ?_;(first|(have _:=nl4)|(have _:=nl3;intro nl4)|(have _:=nl2;intro nl3)|(have _:=nl1;intro nl2)|(intro nl1));intros)|refine wV ?_|(refine wY ?_ ?_<;>intro h)|refine wZ5 @FXs @hml @c1 @List.map_cons.{0,0} @List.map_nil.{0,0} ?_|exact wC5 @FXs @hml @c1 @List.map_cons.{0,0} @List.map_nil.{0,0}|fail
     all_goals (try (exfalso;omega))
     have hvn:∀{z':VS} {ex':List (List MV)} {j:Nat},vwS m l q1 bb W f x.fl d1 sm g1 v x.mask z ex j=none→vwS m l q1 bb W f x.fl d1 sm g1 v x.mask z' ex' j=none:=fun h=>lB.2 (lB.1 h)
     refine aE (α:=Nat × VS × List (List MV) × VS) (fun s=>⟨172,[(14,.int .i64 (s.1:Int)),(8,.ptr nl4 0 0),(7,.ptr v 0 0),(6,.ptr nl3 0 0),(5,.ptr bb 0 0),(2,.ptr nl1 0 0),(3,.ptr nl2 0 0)],[]⟩)
      (fun s=>kS m l q1 bb W f x.fl d1 sm g1 v x.mask s.2.1 s.2.2.1 nl1 nl2 nl3 nl4 X Y s.2.2.2) (fun s=>s.1≤2∧C3 W x.fl s.2.1∧o7 s.2.1 s.2.2.2) (fun s=>2 - s.1) ?_ ?_
     ·refine .of (.less ?_ (σ1:=kS m l q1 bb W f x.fl d1 sm g1 v x.mask z ex nl1 nl2 nl3 nl4 X Y w) (by rw[hτ0];exact St.le_refl _)) ⟨(0,z,ex,w),rfl,rfl,Nat.zero_le _,hV,h3⟩
      exact wW
     ·clear hV h3 c1 hτ0
      rintro⟨i,zz,xx,ww⟩ ⟨hi,hV,h3⟩
      simp only at hi hV h3 ⊢
      have p1:=hvn (z':=zz) (ex':=xx) o1
      have p2:=hvn (z':=zz) (ex':=xx) o2
      have p3:=hvn (z':=zz) (ex':=xx) o3
      have p4:=hvn (z':=zz) (ex':=xx) o4
      by_cases hlt:i<2
      ·obtain⟨h31,h32,h33⟩:=h3
       have hlen:=hV.len
       have hsq2:=hW.sq2
       have hnow:=hV.at_
       have hfl0:0<x.fl.length:=by
        rcases Nat.eq_zero_or_pos x.fl.length with h|h
        ·rw[List.eq_nil_of_length_eq_zero h] at hpe;exact absurd hpe (by decide)
        ·exact h
       have hdl:=Ec V1.hv.2.2.2.2.2.2 f sm x.mask hV.toLInv oM xx a b c
       have hrl:=E1 x.fl false x.mask ww (by rw[←h33];omega) (by rw[←h33];exact hV.tok) (by rw[←h33];exact fun t ht=>⟨hV.sqb t ht,by have:=hV.now t ht;omega⟩) a b c
       rw[←h31,←h32,←h33] at hrl
       unfold US at hdl
       have hcase:∃XI to_ ok,(if a<zz.floor∨zz.now<a then MV.tup [.lst 28 [] false,.int .i64 0,.bool false] else .tup [.lst 28 ((tN zz.log a zz.now b c).1.map IT.k) false,.int .i64 (tN zz.log a zz.now b c).2,.bool true])=.tup [.lst 28 (IT.ks XI) false,.int .i64 to_,.bool ok]∧XI.length≤1000:=by
        by_cases hc:a<zz.floor∨zz.now<a
        ·rw[if_pos hc];exact⟨[],0,false,rfl,by simp⟩
        ·rw[if_neg hc]
         refine⟨_,_,_,rfl,?_⟩
         unfold tN zM
         have q1:=Gz ((upS zz.log a zz.now b).take (mU (upS zz.log a zz.now b) (pgN c) (upS zz.log a zz.now b).length))
         have q2:=tW ((upS zz.log a zz.now b).take (mU (upS zz.log a zz.now b) (pgN c) (upS zz.log a zz.now b).length))
         have q3:=EF zz.log a zz.now b
         rw[List.length_take] at q2
         simp only
         omega
       obtain⟨XI,to_,ok,hce,hXl⟩:=hcase
       rw[hce] at hdl hrl
       have his:=IQ XI XI false false oM
       rw[decide_eq_true rfl] at his
       have htr:=Hj V1.hv.2.2.2.2.2.2 f sm x.mask zz oM xx t
       have hdt:=IA nl4 x.fl false x.mask ww (by rw[←h33];omega) t
       have hV2:=Sd hV t
       have h3':=ON ⟨h31,h32,h33⟩ t
       have c1:kS m l q1 bb W f x.fl d1 sm g1 v x.mask zz xx nl1 nl2 nl3 nl4 X Y ww nl1=some (.row 26 4 [x.c]):=by simp[kS,St.set, *]
       have c2:kS m l q1 bb W f x.fl d1 sm g1 v x.mask zz xx nl1 nl2 nl3 nl4 X Y ww nl2=some (.row 28 4 [[.int .i64 a,.int .i64 b,.int .i64 c,.int .i64 t]]):=by simp[kS,St.set, *]
       have c3:kS m l q1 bb W f x.fl d1 sm g1 v x.mask zz xx nl1 nl2 nl3 nl4 X Y ww nl3=some (dO W):=by simp[kS,St.set, *]
       have c4:kS m l q1 bb W f x.fl d1 sm g1 v x.mask zz xx nl1 nl2 nl3 nl4 X Y ww nl4=some (dvO x.fl false x.mask ww):=by simp[kS,St.set]
       have hlek:(vwS m l q1 bb W f x.fl d1 sm g1 v x.mask zz xx).le (kS m l q1 bb W f x.fl d1 sm g1 v x.mask zz xx nl1 nl2 nl3 nl4 X Y ww):=eR (eR (eR (eR (St.le_refl _) p1) p2) p3) p4
       obtain⟨τ0,hτ0⟩:∃τ0,kS m l q1 bb W f x.fl d1 sm g1 v x.mask zz xx nl1 nl2 nl3 nl4 X Y ww=τ0:=⟨_,rfl⟩
       rw[hτ0] at hlek c1 c2 c3 c4 ⊢
       have e1:=hlek v _ (aD _ _ _)
       have e2:=hlek g1 _ ((aF _ _ _ _ (Ne.symm V1.hv.2.2.2.2.2.2)).trans (aD _ _ _))
       clear hτ0
       repeat' first|(refine cQ hdl (le2 e2 e1) ?_)|(refine aC hrl ?_)|(refine aC his ?_)|(refine wM ?_;(first|(have _:=nl4)|(have _:=nl3;intro nl4)|(have _:=nl2;intro nl3)|(have _:=nl1;intro nl2)|(intro nl1));intros)|refine wV ?_|(refine wY ?_ ?_<;>intro h)|refine wZ7 @FXs @c1 @c2 @c3 @c4 @List.map_cons.{0,0} @List.map_nil.{0,0} ?_|exact wC7 @FXs @c1 @c2 @c3 @c4 @List.map_cons.{0,0} @List.map_nil.{0,0}|fail
       all_goals (try (exfalso;omega))
       refine nR (le2 e2 e1) htr ?_
       rintro _ τ' τa ⟨ex2,rfl⟩ hlea hfra
       have hvg:=V1.hv.2.2.2.2.2.2
       have hnn2:∀{j:Nat},j≠g1→j≠v→((St.none.set g1 (lgO zz.log xx)).set v (vwO f x.mask sm zz.floor zz.now (.vec 31 g1 0 zz.log.length))) j=none:=fun h h'=>by rw[aF _ _ _ _ h',aF _ _ _ _ h];rfl
       have qq1:=lB.1 p1
       have qq2:=lB.1 p2
       have qq3:=lB.1 p3
       have qq4:=lB.1 p4
       have a1:=(hfra nl1 _ c1 (hnn2 qq1.2.1 qq1.1)).1
       have a2:=(hfra nl2 _ c2 (hnn2 qq2.2.1 qq2.1)).1
       have a3:=(hfra nl3 _ c3 (hnn2 qq3.2.1 qq3.1)).1
       have a4:=(hfra nl4 _ c4 (hnn2 qq4.2.1 qq4.1)).1
       obtain⟨z2,hz2⟩:∃z2,iR zz t=z2:=⟨_,rfl⟩
       have hz2s:z2.sh=zz.sh∧z2.now=zz.now:=by rw[←hz2];exact⟨rfl,rfl⟩
       obtain⟨w2,hw2⟩:∃w2,iR ww t=w2:=⟨_,rfl⟩
       rw[hz2] at hlea hV2 h3'
       rw[hw2] at hdt h3'
       rw[←hz2s.2] at hlea
       have hle2:(vwS m l q1 bb W f x.fl d1 sm g1 v x.mask z2 ex2).le τa:=fun j o hj=>by
        by_cases j1:j=v
        ·subst j1
         exact hlea _ _ ((aD _ _ _).trans ((aD _ _ _).symm.trans hj))
        ·by_cases j2:j=g1
         ·subst j2
          exact hlea _ _ ((aF _ _ _ _ j1).trans ((aD _ _ _).trans ((aD _ _ _).symm.trans ((aF _ _ _ _ j1).symm.trans hj))))
         ·refine(hfra j o (hlek j o ?_) (hnn2 j2 j1)).1
          have hj':=(aF _ _ _ _ j2).symm.trans ((aF _ _ _ _ j1).symm.trans hj)
          rw[hz2s.1] at hj'
          exact(aF _ _ _ _ j1).trans ((aF _ _ _ _ j2).trans hj')
       clear hfra hnn2 hlea hlek c1 c2 c3 c4 e1 e2 hdl hrl htr hce
       have p4':vwS m l q1 bb W f x.fl d1 sm g1 v x.mask z2 ex2 nl4=none:=hvn o4
       obtain⟨τb,hτb⟩:∃τb,τa.set nl4 (dvO x.fl false x.mask w2)=τb:=⟨_,rfl⟩
       have hle3:(vwS m l q1 bb W f x.fl d1 sm g1 v x.mask z2 ex2).le τb:=by rw[←hτb];exact eR hle2 p4'
       have b1:τb nl1=some (.row 26 4 [x.c]):=by rw[←hτb,aF _ _ _ _ n14];exact a1
       have b2:τb nl2=some (.row 28 4 [[.int .i64 a,.int .i64 b,.int .i64 c,.int .i64 t]]):=by rw[←hτb,aF _ _ _ _ n24];exact a2
       have b3:τb nl3=some (dO W):=by rw[←hτb,aF _ _ _ _ n34];exact a3
       have b4:τb nl4=some (dvO x.fl false x.mask w2):=by rw[←hτb];exact aD _ _ _
       have l1:=hle3 v _ (aD _ _ _)
       have l2:=hle3 g1 _ ((aF _ _ _ _ (Ne.symm V1.hv.2.2.2.2.2.2)).trans (aD _ _ _))
       have l3:=hle3 sm _ ((aF _ _ _ _ (Ne.symm V1.hv.2.2.2.2.2.1)).trans ((aF _ _ _ _ (Ne.symm V1.hg.2.2.2.2.2)).trans (aD _ _ _)))
       have l4:=hle3 f _ ((aF _ _ _ _ (Ne.symm V1.hv.2.2.2.2.1)).trans ((aF _ _ _ _ (Ne.symm V1.hg.2.2.2.2.1)).trans ((aF _ _ _ _ (Ne.symm V1.hs.2.2.2.2)).trans (aD _ _ _))))
       have hdd:=lM W
       have hsm:=xP (f:=f) V1.hg.2.2.2.2.2 V1.hv.2.2.2.2.2.1 V1.hv.2.2.2.2.2.2 (mk:=x.mask) hW hpe false hV2 ex2 h3' false
       have has:=Hf v f sm x.mask z2.floor z2.now (.vec 31 g1 0 z2.log.length)
       have hnd:=G7 f (fl:=x.fl) oM hfl0 d1
       have hrs:=Kj x.fl x.fl oM false false
       rw[decide_eq_true rfl] at hrs
       obtain⟨C,k1,k2,k3,k4,k5⟩:=kw5 16 ⟨[],fun v=>v=.agg W.c,none⟩ 34 ⟨[v,g1,sm],fun v=>v=.bool true,none⟩ 31 ⟨[v],fun w=>w=.ptr f 0 0,none⟩ 39 ⟨[f],fun w=>w=.lst 5 (x.fl.map ND.c) false,none⟩ 38 ⟨[],fun w=>w=.bool true,none⟩
       repeat' first|(refine wM ?_;(first|(have _:=nl4)|(have _:=nl3;intro nl4)|(have _:=nl2;intro nl3)|(have _:=nl1;intro nl2)|(intro nl1));intros)|refine wV ?_|(refine wY ?_ ?_<;>intro h)|refine wZ7 @FXs @a1 @a2 @a3 @a4 @List.map_cons.{0,0} @List.map_nil.{0,0} ?_|exact wC7 @FXs @a1 @a2 @a3 @a4 @List.map_cons.{0,0} @List.map_nil.{0,0}|fail
       refine cZ a4 hdt ?_
       rw[hτb]
       repeat' first|(refine aI mixed dK C ?_)|(with_reducible refine aG (k1 _) hdd ?_)|(refine eK [v,g1,sm] [vwO f x.mask sm z2.floor z2.now (.vec 31 g1 0 z2.log.length),lgO z2.log ex2,.mp (shE z2.sh)] (k2 _) (by simp[l1,l2,l3]) hsm ?_)|(refine eK [v] [vwO f x.mask sm z2.floor z2.now (.vec 31 g1 0 z2.log.length)] (k3 _) (by simp[l1]) has ?_)|(refine eK [f] [flD x.fl d1] (k4 _) (by simp[l4]) hnd ?_)|(with_reducible refine aG (k5 _) hrs ?_)|(refine wM ?_;(first|(have _:=nl4)|(have _:=nl3;intro nl4)|(have _:=nl2;intro nl3)|(have _:=nl1;intro nl2)|(intro nl1));intros)|refine wV ?_|(refine wY ?_ ?_<;>intro h)|refine wZ7 @FXs @b1 @b2 @b3 @b4 @List.map_cons.{0,0} @List.map_nil.{0,0} ?_|exact wC7 @FXs @b1 @b2 @b3 @b4 @List.map_cons.{0,0} @List.map_nil.{0,0}|fail
       all_goals (try (exfalso;omega))
       all_goals
        refine .of (.less ?_ (σ1:=kS m l q1 bb W f x.fl d1 sm g1 v x.mask z2 ex2 nl1 nl2 nl3 nl4 X Y w2) ?_) ⟨(i+1,z2,ex2,w2),rfl,rfl,⟨by simp only;omega,hV2,h3'⟩,by simp only;omega⟩
        ·exact wW
        ·refine St.aB (St.aB (St.aB (St.aB hle3 ?_) ?_) ?_) ?_
         ·rw[←hX];exact b1
         ·rw[←hY];exact b2
         ·exact b3
         ·exact b4
      ·obtain rfl:i=2:=by omega
       repeat' first|(refine aC haw ?_)|(refine wM ?_;(first|(have _:=nl4)|(have _:=nl3;intro nl4)|(have _:=nl2;intro nl3)|(have _:=nl1;intro nl2)|(intro nl1));intros)|refine wV ?_|(refine wY ?_ ?_<;>intro h)|refine wZ1 @FXs ?_|exact wC1 @FXs|fail
       all_goals first|exact⟨_,St.none_le _,rfl⟩|exact⟨_,St.none_le _⟩|exact⟨_,St.le_refl _,rfl⟩|exact⟨_,St.le_refl _⟩|(exfalso;omega)
end

section
theorem QW{n:Nat}{x:List MV}(h:CT Tryz.prog (n+6) 24 x):∃l:List ED,x=[.lst 29 (l.map ED.c) false]:=by
 obtain⟨xs,hm,_,hx⟩:=E0 (by rw[VH]) h
 obtain⟨l,rfl⟩:=FG fun x hx'=>Ww (hx x hx')
 rw[Uf] at hm
 exact⟨l,hm⟩
theorem Xf{n:Nat}{x:List MV}(h:CT Tryz.prog (n+7) 26 x):∃s:RU,x=s.c:=by
 obtain⟨hl,hf⟩:=lF (congrArg TD.k Ud) h
 rw[Ud] at hl
 obtain⟨l,hh⟩:=Vs (hf (0,22) (by simp))
 obtain⟨u,hu⟩:=Vu (hf (1,23) (by simp))
 obtain⟨a,ha⟩:=QW (hf (2,24) (by simp))
 obtain⟨b,hb⟩:=QW (hf (3,24) (by simp))
 simp only[VG,Kr,VH] at hh hu ha hb
 refine⟨⟨l,u,a,b⟩,?_⟩
 rw[oT hl [(0,1),(1,1),(2,1),(3,1)] rfl]
 simp only[yJ,hh,hu,ha,hb]
 rfl
theorem W6{m:MV}(h:AT Tryz.prog 10 26 m):∃s:RU,m=.agg s.c:=by
 obtain⟨cs,rfl,h1⟩:=OZ (by rw[Ud];rfl) h
 obtain⟨x,rfl⟩:=Xf (n:=3) h1
 exact⟨x,rfl⟩
theorem Bb(x:RU)(q:ASK):aA Tryz.prog 5 [.agg x.c,.agg q.c] St.none (fun r _=>r=.bool true):=yK x q.frm q.cur q.page q.trim
end
end Go.Proofs.YtppdgejjmhdjhaaGreatDoor
