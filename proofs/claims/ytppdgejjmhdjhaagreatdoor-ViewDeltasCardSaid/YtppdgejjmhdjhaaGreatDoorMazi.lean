/- Parts of the proof; conditions: as its theorems name them. -/
import Derived.Test.YtppdgejjmhdjhaaGreatDoorMaze
import Derived.Test.YtppdgejjmhdjhaaGreatDoorMazh
set_option linter.unusedVariables false
set_option linter.unusedSimpArgs false
set_option maxHeartbeats 8000000
set_option maxRecDepth 100000
namespace Go.Proofs.YtppdgejjmhdjhaaGreatDoor
section
theorem r7(B:BK):aA Tryz.prog 16 [.agg B.c] St.none (fun r _=>r=.agg B.c):=by
 refine aA.bS (mB 17 [.cell 2 47] Tryz.func16 ?_)
 repeat' first|(refine wO ?_;intros)|(refine wY ?_ ?_<;>intro h)|refine wZ2 @Tryz.f16.eq_1 @FXs ?_|exact wC2 @Tryz.f16.eq_1 @FXs|fail
 all_goals exact lE
theorem Dr{B:BK}(hb:BkW B)(x:ED):aA Tryz.prog 19 [.agg B.c,.agg x.c] St.none (fun r _=>r=.lst 5 ((cJ B x).map BK.c) false):=by
 refine aA.seen (mB 63 [.tmp 4] Tryz.func19 ?_)
 have hd1:=r7 B
 have hd2:=r7 (doB B x)
 have hdo:=fun(o:Nat)=>AP o hb x
 unfold DoD at hdo
 by_cases h0:doE B x=0
 rotate_left
 ·have hS:cJ B x=[]:=by unfold cJ;rw[if_pos h0]
  have hV:doV B x=.aM:=by unfold doV;rw[if_neg h0]
  rw[hS]
  rw[hV] at hdo
  obtain⟨e,he⟩:∃e,doE B x=e:=⟨_,rfl⟩
  rw[he] at hdo h0
  clear hS hV hb
  repeat' first|(refine aC hd1 ?_)|(refine cU (o:=dO B) (by simp[St.set, *];done) (hdo _) ?_)|(refine wM ?_;(first|(have _:=nl7)|(have _:=nl6;intro nl7)|(have _:=nl5;intro nl6)|(have _:=nl4;intro nl5)|(have _:=nl3;intro nl4)|(have _:=nl2;intro nl3)|(have _:=nl1;intro nl2)|(intro nl1));intros)|refine wV ?_|(refine wY ?_ ?_<;>intro h)|refine wZ2 @Tryz.f19.eq_1 @FXs ?_|exact wC2 @Tryz.f19.eq_1 @FXs|fail
  all_goals first|exact .nil _ _|(exfalso;omega)
 ·obtain⟨l,l1,l2,l3,l4⟩:=KU hb h0
  obtain⟨g1,g2⟩:=KV h0
  have hV:doV B x=.lst 2 ((cT B.sq (doC B x)).map chC) false:=by unfold doV;rw[if_pos h0,Kz]
  have hS:cJ B x=cX B x.gr (cT B.sq l)++[doB B x]:=by unfold cJ;rw[if_neg (by simpa using h0),l1]
  have hwW:=(V4 ⟨g1,g2⟩ l B.sq B hb (Int.le_refl _) l4).1
  have hll:l.length≤1000:=by
   have h1:=(doC B x).length
   rcases iV hb x [] with⟨e1,-⟩|⟨-,i,e2,-⟩|⟨-,e2,-⟩
   ·exact absurd h0 e1
   ·rw[e2] at l2;simp only[List.length_singleton] at l2;omega
   ·have:=pU hb x.gr
    rw[e2,List.length_append,List.length_singleton] at l2
    omega
  have hPl:(cT B.sq (doC B x)).length=l.length+1:=by rw[l8,l2]
  have hPt:(cT B.sq (doC B x)).take l.length=cT B.sq l:=by
   have:=List.dropLast_eq_take (l:=cT B.sq (doC B x))
   rw[l1,hPl,Nat.add_sub_cancel] at this
   exact this.symm
  rw[hS]
  rw[hV,h0] at hdo
  have hat:∀i p,(cT B.sq l)[i]?=some p→((cT B.sq (doC B x)).map chC).getD i []=chC p∧1≤p.2∧p.2<1073741824:=fun i p hp=>by
   have hi:=(List.getElem?_eq_some_iff.1 hp).1
   rw[l8] at hi
   refine⟨bN (f:=chC) ?_,l3 p.2 (LN B.sq l p (List.mem_of_getElem? hp)).2.2⟩
   rw[←hPt,List.getElem?_take,if_pos hi] at hp
   exact hp
  have hml:((cT B.sq (doC B x)).map chC).length=l.length+1:=by rw[List.length_map,hPl]
  obtain⟨Q,hQ⟩:∃Q,(cT B.sq (doC B x)).map chC=Q:=⟨_,rfl⟩
  obtain⟨P,hP⟩:∃P,cT B.sq l=P:=⟨_,rfl⟩
  have hPn:P.length=l.length:=by rw[←hP,l8]
  rw[hQ] at hdo hat hml
  rw[hP] at hat hwW ⊢
  obtain⟨n,hn⟩:∃n,l.length=n:=⟨_,rfl⟩
  rw[hn] at hml hPn hll
  clear l1 l2 l3 l4 hV hS hPl hPt hQ hP
  repeat' first|(refine aC hd1 ?_)|(refine cU (o:=dO B) (by simp[St.set, *];done) (hdo _) ?_)|(refine wM ?_;(first|(have _:=nl7)|(have _:=nl6;intro nl7)|(have _:=nl5;intro nl6)|(have _:=nl4;intro nl5)|(have _:=nl3;intro nl4)|(have _:=nl2;intro nl3)|(have _:=nl1;intro nl2)|(intro nl1));intros)|refine wV ?_|(refine wY ?_ ?_<;>intro h)|refine wZ3 @Tryz.f19.eq_1 @FXs @hml ?_|exact wC3 @Tryz.f19.eq_1 @FXs @hml|fail
  all_goals (try (exfalso;omega))
  have a21:nl2≠nl1:=by assumption
  have a31:nl3≠nl1:=by assumption
  have a32:nl3≠nl2:=by assumption
  have a41:nl4≠nl1:=by assumption
  have a42:nl4≠nl2:=by assumption
  have a43:nl4≠nl3:=by assumption
  have a51:nl5≠nl1:=by assumption
  have a52:nl5≠nl2:=by assumption
  have a53:nl5≠nl3:=by assumption
  have a54:nl5≠nl4:=by assumption
  have a23:=Ne.symm a32
  have a24:=Ne.symm a42
  have a34:=Ne.symm a43
  refine aF (α:=Nat × Nat × List (List MV)) (fun s=>⟨63,[(10,.int .i64 (s.1:Int)),(9,.vec 5 s.2.1 0 s.1),(7,.lst 2 Q false),(5,.ptr nl3 0 0),(6,.ptr nl4 0 0),(3,.ptr nl2 0 0)],[]⟩)
   (fun s=>(((St.none.set nl2 (.row 59 29 [x.c])).set nl3 (.row 47 5 [(H7 B x.gr (P.take s.1)).c])).set nl4 (dO (doB B x))).set s.2.1 (.row 47 5 ((cX B x.gr (P.take s.1)).map BK.c++s.2.2))) (fun s=>s.1≤n∧s.2.1≠nl2∧s.2.1≠nl3∧s.2.1≠nl4) (fun s=>n - s.1) ?_ ?_
  ·refine .of (.less ?_ (σ1:=(((St.none.set nl2 (.row 59 29 [x.c])).set nl3 (.row 47 5 [B.c])).set nl4 (dO (doB B x))).set nl5 (.row 47 5 [])) ?_) ⟨(0,nl5,[]),rfl,rfl,Nat.zero_le _,a52,a53,a54⟩
   ·exact wW
   ·exact St.aB (St.aB (le2 sS sS) sS) sS
  ·rintro⟨i,q,ex⟩ ⟨hi,q2,q3,q4⟩
   simp only at hi q2 q3 q4 ⊢
   have q2':=Ne.symm q2
   have q3':=Ne.symm q3
   have q4':=Ne.symm q4
   by_cases hlt:i<n
   ·obtain⟨p,hp⟩:=bU P (by omega:i<P.length)
    obtain⟨hatp,p1,p2⟩:=hat i p hp
    have hW:=hwW i
    have hsl:=uN x.gr (P.take i) B p
    have hws:=OQ x.gr (P.take i) B p
    rw[←aZ hp] at hsl hws
    have hSl:((cX B x.gr (P.take i)).map BK.c).length=i:=by rw[List.length_map,mW,List.length_take];omega
    obtain⟨W,hWe⟩:∃W,H7 B x.gr (P.take i)=W:=⟨_,rfl⟩
    rw[hWe] at hW hsl hws ⊢
    have hqc:=AV W.gr hW.grF x.gr p.2 g1 g2 p1 p2 false
    have hQs:(gK x.gr W p).c=[.int .i64 p.1,.int .i64 W.nx,.lst 27 (W.cards.map CA.c) false,.lst 3 (W.dead.map DE.c) false,.lst 2 ((mT W.gr x.gr p.2).map GR.c) false]:=rfl
    obtain⟨Z,hZ⟩:∃Z,mT W.gr x.gr p.2=Z:=⟨_,rfl⟩
    have hqq:∃v e,(if x.gr∈W.gr.map GR.no then(if p.2∈bH W.gr x.gr then MV.tup [.lst 2 ((eW W.gr x.gr (dF (bH W.gr x.gr) p.2)).map GR.c) false,.int .i64 0] else .tup [.aM,.int .i64 6]) else .tup [.aM,.int .i64 6])=.tup [v,.int .i64 e]∧((e=0∧v=.lst 2 (Z.map GR.c) false)∨(e=6∧v=.aM∧W.gr=Z)):=by
     unfold mT at hZ
     by_cases c1:x.gr∈W.gr.map GR.no
     ·rw[if_pos c1]
      by_cases c2:p.2∈bH W.gr x.gr
      ·rw[if_pos ⟨c1,c2⟩] at hZ
       rw[if_pos c2,hZ]
       exact⟨_,_,rfl,.inl ⟨rfl,rfl⟩⟩
      ·rw[if_neg fun h=>c2 h.2] at hZ
       rw[if_neg c2]
       exact⟨_,_,rfl,.inr ⟨rfl,rfl,hZ⟩⟩
     ·rw[if_neg fun h=>c1 h.1] at hZ
      rw[if_neg c1]
      exact⟨_,_,rfl,.inr ⟨rfl,rfl,hZ⟩⟩
    obtain⟨v,e,hve,hcase⟩:=hqq
    rw[hve] at hqc
    rw[hZ] at hQs
    obtain⟨C,k1⟩:=kw1 80 ⟨[],fun w=>w=.tup [v,.int .i64 e],none⟩
    obtain⟨L,hL⟩:∃L,(cX B x.gr (P.take i)).map BK.c=L:=⟨_,rfl⟩
    have hL2:(cX B x.gr (P.take (i+1))).map BK.c=L++[(gK x.gr W p).c]:=by rw[hsl,List.map_append,hL];rfl
    rw[hL] at hSl ⊢
    have htk:(L++ex).take i=L:=List.take_left' hSl
    have hdr:(L++ex).drop (i+1)=ex.drop 1:=by rw[←List.drop_drop,List.drop_left' hSl]
    clear hsl hW hve hat hwW hdo hd1
    rcases hcase with⟨rfl,rfl⟩|⟨rfl,rfl,hZe⟩
    ·repeat' first|(refine aJ mixed dK C ?_)|(with_reducible refine aH (k1 _) hqc ?_)|(refine wM ?_;(first|(have _:=nl7)|(have _:=nl6;intro nl7)|(have _:=nl5;intro nl6)|(have _:=nl4;intro nl5)|(have _:=nl3;intro nl4)|(have _:=nl2;intro nl3)|(have _:=nl1;intro nl2)|(intro nl1));intros)|refine wV ?_|(refine wY ?_ ?_<;>intro h)|refine wZ6 @FXs @hml @hatp @hSl @htk @hdr ?_|exact wC6 @FXs @hml @hatp @hSl @htk @hdr|fail
     all_goals (try (exfalso;omega))
     all_goals clear hqc k1
     ·obtain rfl:ex=[]:=List.eq_nil_of_length_eq_zero oM
      clear h
      refine .of (.less ?_ (σ1:=(((St.none.set nl2 (.row 59 29 [x.c])).set nl3 (.row 47 5 [(gK x.gr W p).c])).set nl4 (dO (doB B x))).set nl7 (.row 47 5 ((L++[(gK x.gr W p).c])++[]))) ?_) ⟨(i+1,nl7,[]),rfl,by simp only[hws,hL2],⟨by simp only;omega,by assumption,by assumption,by assumption⟩,by simp only;omega⟩
      ·exact wW
      ·rw[hQs]
       exact St.aB (St.aB (le2 sS sS) sS) sS
     ·clear h
      refine .of (.less ?_ (σ1:=(((St.none.set nl2 (.row 59 29 [x.c])).set nl3 (.row 47 5 [(gK x.gr W p).c])).set nl4 (dO (doB B x))).set nl7 (.row 47 5 ((L++[(gK x.gr W p).c])++ex.drop 1))) ?_) ⟨(i+1,nl7,ex.drop 1),rfl,by simp only[hws,hL2],⟨by simp only;omega,by assumption,by assumption,by assumption⟩,by simp only;omega⟩
      ·exact wW
      ·rw[hQs]
       exact St.aB (St.aB (le2 sS sS) sS) sS
    ·rw[←hZe] at hQs
     repeat' first|(refine aJ mixed dK C ?_)|(with_reducible refine aH (k1 _) hqc ?_)|(refine wM ?_;(first|(have _:=nl7)|(have _:=nl6;intro nl7)|(have _:=nl5;intro nl6)|(have _:=nl4;intro nl5)|(have _:=nl3;intro nl4)|(have _:=nl2;intro nl3)|(have _:=nl1;intro nl2)|(intro nl1));intros)|refine wV ?_|(refine wY ?_ ?_<;>intro h)|refine wZ6 @FXs @hml @hatp @hSl @htk @hdr ?_|exact wC6 @FXs @hml @hatp @hSl @htk @hdr|fail
     all_goals (try (exfalso;omega))
     all_goals clear hqc k1 hZe
     ·obtain rfl:ex=[]:=List.eq_nil_of_length_eq_zero oM
      clear h
      refine .of (.less ?_ (σ1:=(((St.none.set nl2 (.row 59 29 [x.c])).set nl3 (.row 47 5 [(gK x.gr W p).c])).set nl4 (dO (doB B x))).set nl7 (.row 47 5 ((L++[(gK x.gr W p).c])++[]))) ?_) ⟨(i+1,nl7,[]),rfl,by simp only[hws,hL2],⟨by simp only;omega,by assumption,by assumption,by assumption⟩,by simp only;omega⟩
      ·exact wW
      ·rw[hQs]
       exact St.aB (St.aB (le2 sS sS) sS) sS
     ·clear h
      refine .of (.less ?_ (σ1:=(((St.none.set nl2 (.row 59 29 [x.c])).set nl3 (.row 47 5 [(gK x.gr W p).c])).set nl4 (dO (doB B x))).set nl7 (.row 47 5 ((L++[(gK x.gr W p).c])++ex.drop 1))) ?_) ⟨(i+1,nl7,ex.drop 1),rfl,by simp only[hws,hL2],⟨by simp only;omega,by assumption,by assumption,by assumption⟩,by simp only;omega⟩
      ·exact wW
      ·rw[hQs]
       exact St.aB (St.aB (le2 sS sS) sS) sS
   ·obtain rfl:i=n:=by omega
    have hPa:P.take i=P:=List.take_of_length_le oM
    rw[hPa]
    have hSl:((cX B x.gr P).map BK.c).length=i:=by rw[List.length_map,mW,hPn]
    obtain⟨L,hL⟩:∃L,(cX B x.gr P).map BK.c=L:=⟨_,rfl⟩
    have hL2:(cX B x.gr P++[doB B x]).map BK.c=L++[(doB B x).c]:=by rw[List.map_append,hL];rfl
    rw[hL] at hSl ⊢
    rw[hL2]
    have htk:(L++ex).take i=L:=List.take_left' hSl
    have hdr:(L++ex).drop (i+1)=ex.drop 1:=by rw[←List.drop_drop,List.drop_left' hSl]
    clear hat hwW hdo hd1
    repeat' first|(refine aC hd2 ?_)|(refine wM ?_;(first|(have _:=nl7)|(have _:=nl6;intro nl7)|(have _:=nl5;intro nl6)|(have _:=nl4;intro nl5)|(have _:=nl3;intro nl4)|(have _:=nl2;intro nl3)|(have _:=nl1;intro nl2)|(intro nl1));intros)|refine wV ?_|(refine wY ?_ ?_<;>intro h)|refine wZ5 @FXs @hml @hSl @htk @hdr ?_|exact wC5 @FXs @hml @hSl @htk @hdr|fail
    all_goals (try (exfalso;omega))
    ·obtain rfl:ex=[]:=List.eq_nil_of_length_eq_zero oM
     rw[List.append_nil]
     exact View.vecAll (aD _ _ _) (by rw[List.length_append,hSl];rfl)
    ·exact fN (aD _ _ _) (by rw[List.length_append,hSl];rfl)
end

section
def mD(B:BK)(l:List ED):BK:=l.foldl doB B
theorem Uf{B:BK}(hb:BkW B):∀l:List ED,BkW (mD B l):=fun l=>by
 induction l generalizing B with
 | nil=>exact hb
 | cons x l ih=>exact ih (doW hb x)
theorem CZ(B:BK)(l:List ED)(x:ED):mD B (l++[x])=doB (mD B l) x:=by
 unfold mD
 rw[List.foldl_append];rfl
theorem Wr:BkW bk1:=Wt (by decide)
theorem Mt:aA Tryz.prog 61 [] St.none (fun r _=>r=.agg bk1.c):=by
 refine aA.seen (mB 3 [.cell 0 41] Tryz.func61 ?_)
 repeat' first|(refine wO ?_;intros)|(refine wY ?_ ?_<;>intro h)|refine wZ2 @Tryz.f61.eq_1 @FXs ?_|exact wC2 @Tryz.f61.eq_1 @FXs|fail
 all_goals exact View.Xj ⟨.same _,.same _,.nil _ _,.nil _ _,.nil _ _,trivial⟩ rfl
theorem Ut{P:Program}{g:FuncId}{ms:List MV}{σ:St}{m l q b:Nat}{B:BK}{ex:List (List MV)}{x:ED}{k:MV→St→Prop}(hb:(bkS m l q b B ex).le σ)(h:aA P g ms (bkS m l q b B ex) (DoP m l b B x))
 (hk:∀q' ex' τ,dM m l q' b→(bkS m l q' b (doB B x) ex').le τ→(∀j o,σ j=some o→bkS m l q b B ex j=none→τ j=some o∧j≠q')→R (bT (.tup [doV B x,.int .i64 (doE B x)]) τ k)):R (cW P g ms σ k) :=
 bK h hb fun v σ' hv hf=>by
  obtain⟨q',ex',D,rfl,rfl⟩:=hv
  refine hk q' ex' _ D (lC _ _) fun j o hj hn=>?_
  have hq:(bkS m l q' b (doB B x) ex') j=none:=by
   cases hc:(bkS m l q' b (doB B x) ex') j with
   | none=>rfl
   | some o' =>
    rcases hf j o' hc with h1|⟨o'',h1⟩
    ·rw[hj] at h1;cases h1
    ·rw[hn] at h1;cases h1
  refine⟨?_,fun e=>?_⟩
  ·unfold St.over St.minus
   rw[hq,hn]
   exact hj
  ·subst e
   simp only[aV] at hq
   exact hq.2.1 rfl
theorem eP{σ τ:St}(h:σ.le τ){n:Nat}{o:aT}(hn:σ n=none):σ.le (τ.set n o):=fun j o' hj=>by
 unfold St.set
 rw[if_neg (fun e=>by subst e;rw[hn] at hj;cases hj)]
 exact h j o' hj
theorem dV{m l q b:Nat}{B:BK}{ex:List (List MV)}{j:Nat}(h1:j≠m)(h2:j≠l)(h3:j≠q)(h4:j≠b):bkS m l q b B ex j=none:=by
 simp only[aV]
 exact⟨h4,h3,h2,h1,rfl⟩
theorem Ig(es:List ED)(hl:es.length≤1000000)(tt:Bool):aA Tryz.prog 14 [.lst 29 (es.map ED.c) tt] St.none (fun r σ'=>∃m l q b ex,dM m l q b∧r=.tup [.ptr b 0 0,.agg (mD bk1 es).c]∧σ'=bkS m l q b (mD bk1 es) ex):=by
 refine aA.less (Q':=fun r σ'=>∃m l q b ex,dM m l q b∧r=.tup [.ptr b 0 0,.agg (mD bk1 es).c]∧(bkS m l q b (mD bk1 es) ex).le σ') (mB 28 [.tmp 2,.cell 3 41] Tryz.func14 ?_) fun r σ' ⟨m,l,q,b,ex,h1,h2,h3⟩=>⟨_,h3,m,l,q,b,ex,h1,h2,rfl⟩
 have hnew:aA Tryz.prog 60 [] St.none _:=xG
 have hdn:=Mt
 have hml:(es.map ED.c).length=es.length:=List.length_map _
 repeat' first|(refine aC hdn ?_)|((refine LV hnew ?_;intro m l q b hm hl hq hb D;simp only[aV] at hm hl hq hb;obtain⟨m1,-⟩:=hm;obtain⟨l1,-⟩:=hl;obtain⟨q1,-⟩:=hq;obtain⟨b1,-⟩:=hb;have m1':=Ne.symm m1;have l1':=Ne.symm l1;have q1':=Ne.symm q1;have b1':=Ne.symm b1;have D':=D;obtain⟨d1,d2,d3,d4,d5,d6⟩:=D;have e1:=Ne.symm d1;have e2:=Ne.symm d2;have e3:=Ne.symm d3;have e4:=Ne.symm d4;have e5:=Ne.symm d5;have e6:=Ne.symm d6))|(refine wM ?_;(first|(have _:=nl2)|(have _:=nl1;intro nl2)|(intro nl1));intros)|refine wV ?_|(refine wY ?_ ?_<;>intro h)|refine wZ2 @Tryz.f14.eq_1 @FXs ?_|exact wC2 @Tryz.f14.eq_1 @FXs|fail
 have n12:nl2≠nl1:=by assumption
 have n21:=Ne.symm n12
 have b2m:nl2≠m:=by assumption
 have b2l:nl2≠l:=by assumption
 have b2q:nl2≠q:=by assumption
 have b2b:nl2≠b:=by assumption
 refine aF (α:=Nat × Nat × List (List MV)) (fun s=>⟨28,[(6,.int .i64 (s.1:Int)),(4,.ptr b 0 0),(5,.ptr nl2 0 0),(3,.ptr nl1 0 0),(0,.lst 29 (es.map ED.c) tt)],[]⟩)
  (fun s=>((bkS m l s.2.1 b (mD bk1 (es.take s.1)) s.2.2).set nl1 (.row 41 5 [[.int .i64 0,.int .i64 0,.aM,.aM,.aM]])).set nl2 (dO (mD bk1 (es.take s.1)))) (fun s=>s.1≤es.length∧dM m l s.2.1 b∧s.2.1≠nl1∧s.2.1≠nl2) (fun s=>es.length - s.1) ?_ ?_
 ·refine .of (.less ?_ ?_) ⟨(0,q,[]),rfl,rfl,Nat.zero_le _,D',Ne.symm q1',Ne.symm b2q⟩
  ·exact wW
  ·simp only[bkS,shS,List.append_nil,mD,List.take_zero,List.foldl_nil]
   exact St.aB (St.aB (St.aB (St.aB (le2 sS sS) sS) sS) sS) sS
 ·rintro⟨i,q0,ex0⟩ ⟨hi,D0,p1,p2⟩
  simp only at hi D0 p1 p2 ⊢
  have hW:=Uf Wr (es.take i)
  by_cases hlt:i<es.length
  ·obtain⟨x,hx⟩:=bU es hlt
   have hat:=bN (f:=ED.c) hx
   have hsn:=CZ bk1 (es.take i) x
   rw[←aZ hx] at hsn
   obtain⟨W,hWe⟩:∃W,mD bk1 (es.take i)=W:=⟨_,rfl⟩
   rw[hWe] at hW hsn ⊢
   have hpd:=He hW D0 ex0 x
   have hrd:=fun(o:Nat)=>AP o hW x
   unfold DoD at hrd
   have hn1:bkS m l q0 b W ex0 nl1=none:=dV (by assumption) (by assumption) (Ne.symm p1) (by assumption)
   have hn2:bkS m l q0 b W ex0 nl2=none:=dV (by assumption) (by assumption) (Ne.symm p2) (by assumption)
   obtain⟨Z,hZ⟩:∃Z:aT,.row 41 5 [[.int .i64 0,.int .i64 0,.aM,.aM,.aM]]=Z:=⟨_,rfl⟩
   rw[hZ]
   repeat' first|((refine Ut (eP (eP (St.le_refl _) hn1) hn2) hpd ?_;intro q2 ex2 τ D2 hle2 hfr;obtain⟨f1,g1⟩:=hfr nl1 Z sS hn1;obtain⟨f2,g2⟩:=hfr nl2 (dO W) sS hn2;clear hfr))|(refine cU (o:=dO W) (by assumption) (hrd _) ?_)|(refine wM ?_;(first|(have _:=nl2)|(have _:=nl1;intro nl2)|(intro nl1));intros)|refine wV ?_|(refine wY ?_ ?_<;>intro h)|refine wZ3 @FXs @hat @hml ?_|exact wC3 @FXs @hat @hml|fail
   all_goals (try (exfalso;omega))
   all_goals
    have g1':=Ne.symm g1
    have g2':=Ne.symm g2
    have k1:bkS m l q2 b (doB W x) ex2 nl1=none:=dV (by assumption) (by assumption) g1 (by assumption)
    have k2:bkS m l q2 b (doB W x) ex2 nl2=none:=dV (by assumption) (by assumption) g2 (by assumption)
    refine .of (.less ?_ (σ1:=((bkS m l q2 b (doB W x) ex2).set nl1 Z).set nl2 (dO (doB W x))) ?_) ⟨(i+1,q2,ex2),rfl,by simp only[hsn,←hZ],⟨by simp only;omega,D2,g1',g2'⟩,by simp only;omega⟩
    ·exact wW
    ·exact St.aB (St.aB (eP hle2 k2) (by rw[aG _ _ _ _ n21];exact f1)) (aD _ _ _)
  ·obtain rfl:i=es.length:=by omega
   rw[List.take_length] at hW ⊢
   obtain⟨W,hWe⟩:∃W,mD bk1 es=W:=⟨_,rfl⟩
   rw[hWe] at hW ⊢
   have hn1:bkS m l q0 b W ex0 nl1=none:=dV (by assumption) (by assumption) (Ne.symm p1) (by assumption)
   have hn2:bkS m l q0 b W ex0 nl2=none:=dV (by assumption) (by assumption) (Ne.symm p2) (by assumption)
   repeat' first|(refine wM ?_;(first|(have _:=nl2)|(have _:=nl1;intro nl2)|(intro nl1));intros)|refine wV ?_|(refine wY ?_ ?_<;>intro h)|refine wZ2 @FXs @hml ?_|exact wC2 @FXs @hml|fail
   all_goals (try (exfalso;omega))
   all_goals exact⟨m,l,q0,b,ex0,D0,rfl,eP (eP (St.le_refl _) hn1) hn2⟩
end

section
def lV(l:List ED):Bool:=decide (120<l.length) || l.any fun x=>pR x.p.f
theorem AJ(l:List ED)(tt:Bool):aA Tryz.prog 56 [.lst 29 (l.map ED.c) tt] St.none (fun r _=>r=.bool (lV l)):=by
 refine aA.bS (mB 20 [.tmp 2] Tryz.func56 ?_)
 have hml:(l.map ED.c).length=l.length:=List.length_map _
 by_cases h:120<l.length
 ·have e:lV l=true:=by unfold lV;rw[decide_eq_true h];rfl
  rw[e]
  repeat' first|(refine wO ?_;intros)|(refine wY ?_ ?_<;>intro h)|refine wZ2 @Tryz.f56.eq_1 @hml ?_|exact wC2 @Tryz.f56.eq_1 @hml|fail
  all_goals exact lE
 ·repeat' first|(refine wO ?_;intros)|(refine wY ?_ ?_<;>intro h)|refine wZ2 @Tryz.f56.eq_1 @hml ?_|exact wC2 @Tryz.f56.eq_1 @hml|fail
  all_goals (try (exfalso;omega))
  refine aF (α:=Nat) (fun i=>⟨20,[(3,.int .i64 (i:Int)),(0,.lst 29 (l.map ED.c) tt)],[]⟩) (fun _=>St.none) (fun i=>i≤l.length∧(l.take i).any (fun x=>pR x.p.f)=false) (fun i=>l.length - i) (.of (.less ?_ (St.none_le _)) ⟨0,rfl,rfl,Nat.zero_le _,rfl⟩) ?_
  ·exact wW
  ·rintro i ⟨hi,hq⟩
   by_cases hlt:i<l.length
   ·obtain⟨x,hx⟩:=bU l hlt
    have hat:=bN (f:=ED.c) hx
    have hc:=Ep x.p.f
    have hnext:(l.take (i+1)).any (fun x=>pR x.p.f)=pR x.p.f:=by rw[aZ hx,List.any_append,hq];simp
    obtain⟨b,hb⟩:∃b,pR x.p.f=b:=⟨_,rfl⟩
    rw[hb] at hc hnext
    cases b
    ·repeat' first|(with_reducible first|refine up hc ?_)|(refine wO ?_;intros)|(refine wY ?_ ?_<;>intro h)|refine wZ3 @FXs @hat @hml ?_|exact wC3 @FXs @hat @hml|fail
     all_goals (try (exfalso;omega))
     all_goals
      refine .of (.less ?_ (St.none_le _)) ⟨i+1,rfl,rfl,⟨by omega,hnext⟩,by omega⟩
      exact wW
    ·have e:lV l=true:=by
      unfold lV
      rw[Bool.or_eq_true]
      exact .inr (List.any_eq_true.2 ⟨x,List.mem_of_getElem? hx,hb⟩)
     rw[e]
     repeat' first|(with_reducible first|refine up hc ?_)|(refine wO ?_;intros)|(refine wY ?_ ?_<;>intro h)|refine wZ3 @FXs @hat @hml ?_|exact wC3 @FXs @hat @hml|fail
     all_goals exact lE
   ·obtain rfl:i=l.length:=by omega
    rw[List.take_length] at hq
    have e:lV l=false:=by unfold lV;rw[decide_eq_false h,hq];rfl
    rw[e]
    repeat' first|(refine wO ?_;intros)|(refine wY ?_ ?_<;>intro h)|refine wZ1 @hml ?_|exact wC1 @hml|fail
    all_goals exact lE
structure RU where
 fl:List ND
 mask:UInt32
 pre:List ED
 post:List ED
abbrev RU.c(x:RU):List MV:=[.lst 5 (x.fl.map ND.c) false,.int .u32 (x.mask.toNat:Int),.lst 29 (x.pre.map ED.c) false,.lst 29 (x.post.map ED.c) false]
theorem Kg(x:RU):aA Tryz.prog 10 [.agg x.c] St.none (fun r _=>r=.bool (oE x.fl || lV x.pre || lV x.post)):=by
 refine aA.bS (mB 16 [.tmp 2] Tryz.func10 ?_)
 have h1:=HG x.fl false
 have h2:=AJ x.pre false
 have h3:=AJ x.post false
 generalize oE x.fl=a at h1 ⊢
 generalize lV x.pre=b at h2 ⊢
 generalize lV x.post=c at h3 ⊢
 cases a<;>cases b<;>cases c
 all_goals
  repeat' first|(with_reducible first|refine up h1 ?_|refine up h2 ?_|refine up h3 ?_)|(refine wO ?_;intros)|(refine wY ?_ ?_<;>intro h)|refine wZ2 @Tryz.f10.eq_1 @FXs ?_|exact wC2 @Tryz.f10.eq_1 @FXs|fail
  all_goals exact lE
theorem LK:∀{cs:List CA} (j:Int),shG (shV cs) j=((cs.find? fun c=>decide (c.id=j)).getD ca0).ver
 | [],j=>rfl
 | c::cs,j=>by
  have ih:=LK (cs:=cs) j
  simp only[shV,List.map_cons,shG,List.find?_cons] at ih ⊢
  by_cases h:c.id=j
  ·simp[h]
  ·simp[h,ih]
theorem SB{B:BK}(hb:BkW B)(fl:List ND):L2 B fl ⟨shV (shC B fl),B.sq,B.sq,[]⟩ where
 ch:=KS
 up:=.nil
 now:=fun t ht=>by cases ht
 tok:=fun t ht=>by cases ht
 idb:=fun t ht=>by cases ht
 new:=fun id v h=>by cases h
 key:=by
  have:(shV (shC B fl)).map (·.1)=Tg B fl:=by unfold shV;rw[List.map_map];exact(PI B fl).symm
  rw[this]
  exact(Vj hb fl).imp fun h=>by omega
 val:=fun p hp=>by
  obtain⟨c,hc,rfl⟩:=List.mem_map.1 hp
  obtain⟨⟨p1,p2,p3,p4,p5⟩,p6⟩:=fI (hb.cds c (List.mem_filter.1 hc).1).1
  simp only
  omega
 len:=Nat.zero_le _
 flo:=Int.le_refl _
 pos:=hb.sq1
 sqb:=fun t ht=>by cases ht
 at_:=rfl
 sh:=fun j=>by
  rw[LK]
  unfold bR shown
  cases hf:B.cards.find? (fun c=>decide (c.id=j)) with
  | none =>
   have:(shC B fl).find? (fun c=>decide (c.id=j))=none:=by
    rw[List.find?_eq_none] at hf ⊢
    exact fun c hc=>hf c (List.mem_filter.1 hc).1
   rw[this]
  | some c =>
   simp only
   by_cases hs:eR B.gr fl c=true
   ·rw[if_pos hs]
    have h1:=List.mem_of_find?_eq_some hf
    have h2:c.id=j:=by simpa using List.find?_some hf
    have hm:c∈shC B fl:=List.mem_filter.2 ⟨h1,hs⟩
    have hu:UpI ((shC B fl).map CA.id):=hb.ups.sublist (List.Sublist.map _ List.filter_sublist)
    obtain⟨y,-,q2,q3,q4⟩:=pQ (f:=CA.id) hu (List.mem_map.2 ⟨c,hm,h2⟩)
    have:y=c:=qW (f:=CA.id) hu q4 hm (q2.trans h2.symm)
    rw[q3,this]
   ·rw[if_neg hs]
    have:(shC B fl).find? (fun c=>decide (c.id=j))=none:=by
     rw[List.find?_eq_none]
     intro d hd hj
     have hj:d.id=j:=by simpa using hj
     obtain⟨d1,d2⟩:=List.mem_filter.1 hd
     have h1:=List.mem_of_find?_eq_some hf
     have h2:c.id=j:=by simpa using List.find?_some hf
     have:d=c:=qW (f:=CA.id) hb.ups d1 h1 (hj.trans h2.symm)
     rw[this] at d2
     exact hs d2
    rw[this]
end

section
def DoZ(m l b:Nat)(B:BK)(x:ED)(v:MV)(σ':St):Prop:=∃q',dM m l q' b∧v=.tup [doV B x,.int .i64 (doE B x)]∧σ'=bkS m l q' b (doB B x) []
theorem Ph{m l q b:Nat}{B:BK}{ex:List (List MV)}(D:dM m l q b):(bkS m l q b B ex).set q (.row 197 3 (B.dead.map DE.c))=bkS m l q b B []:=by
 obtain⟨d1,d2,d3,d4,d5,d6⟩:=D
 simp only[bkS,shS,List.append_nil]
 funext j
 by_cases h1:j=q
 ·subst h1;simp[St.set,Ne.symm d6,d6]
 ·simp[St.set,h1]
theorem UC{m l q b:Nat}{B:BK}{ex:List (List MV)}(D:dM m l q b):bkS m l q b B ex q=some (.row 197 3 (B.dead.map DE.c++ex)):=by
 obtain⟨d1,d2,d3,d4,d5,d6⟩:=D
 simp[bkS,shS,St.set,d6,Ne.symm d6]
theorem Oh{B:BK}(hb:BkW B){m l q b:Nat}(D:dM m l q b)(ex:List (List MV))(x:ED):aA Tryz.prog 17 [.ptr b 0 0,.agg x.c] (bkS m l q b B ex) (DoZ m l b B x):=by
 refine aA.gh ((He hb D ex x).mono ?_)
 rintro v σ' ⟨q',ex',D',rfl,rfl⟩
 refine .of (bA.cut (UC D')) ⟨_,rfl,q',D',rfl,Ph D'⟩
theorem E8(es:List ED)(hl:es.length≤1000000)(tt:Bool):aA Tryz.prog 14 [.lst 29 (es.map ED.c) tt] St.none (fun r σ'=>∃m l q b,dM m l q b∧r=.tup [.ptr b 0 0,.agg (mD bk1 es).c]∧σ'=bkS m l q b (mD bk1 es) []):=by
 refine aA.gh ((Ig es hl tt).mono ?_)
 rintro v σ' ⟨m,l,q,b,ex,D,rfl,rfl⟩
 exact .of (bA.cut (UC D)) ⟨_,rfl,m,l,q,b,D,rfl,Ph D⟩
theorem uY{P:Program}{g:FuncId}{ms:List MV}{σ τ:St}{Q:MV→St→Prop}{k:MV→St→Prop}(hb:τ.le σ)(h:aA P g ms τ Q)
 (hk:∀v τ' σ',Q v τ'→τ'.le σ'→(∀j o,σ j=some o→τ j=none→σ' j=some o∧τ' j=none)→R (bT v σ' k)):R (cW P g ms σ k) :=
 bK h hb fun v σ' hv hf=>by
  refine hk v σ' _ hv (lC _ _) fun j o hj hn=>?_
  have hq:σ' j=none:=by
   cases hc:σ' j with
   | none=>rfl
   | some o' =>
    rcases hf j o' hc with h1|⟨o'',h1⟩
    ·rw[hj] at h1;cases h1
    ·rw[hn] at h1;cases h1
  refine⟨?_,hq⟩
  unfold St.over St.minus
  rw[hq,hn]
  exact hj
theorem Ex{B:BK}(hb:BkW B){x:ED}{fl:List ND}(hp:cR fl=0){mk:UInt32}{m l q b f sm g v:Nat}(V:kZ m l q b f sm g v)(d:Bool)(z:VS)(hz:z.log.length≤40)(ex:List (List MV)) :
  aA Tryz.prog 18 [.ptr v 0 0,.ptr b 0 0,doV B x] (vwS m l q b (doB B x) f fl d sm g v mk z ex) (fun _ σ'=>∃d' g' ex',kZ m l q b f sm g' v∧σ'=vwS m l q b (doB B x) f fl d' sm g' v mk (eF (doB B x) fl mk z (cT B.sq (doC B x))) ex'):=by
 have hw:=doW hb x
 have hn:(cT B.sq (doC B x)).length≤1000000:=by
  rw[l8]
  rcases iV hb x [] with⟨-,e2,-⟩|⟨-,i,e2,-⟩|⟨-,e2,-⟩
  ·rw[e2];simp
  ·rw[e2];simp
  ·have:=pU hb x.gr
   rw[e2,List.length_append,List.length_singleton];omega
 have hs:=qC hw.toBkR (by have:=hw.ng;omega) (fun g hg=>by have:=hw.nm g hg;omega) (by have:=hw.nd;omega) hp V d z hz ex (cT B.sq (doC B x)) hn false (mk:=mk)
 unfold doV
 by_cases h0:doE B x=0
 ·rw[if_pos h0,←Kz]
  exact hs
 ·rw[if_neg h0]
  have:doC B x=[]:=by
   rcases iV hb x [] with⟨-,e2,-⟩|⟨e1,-⟩|⟨e1,-⟩
   ·exact e2
   ·exact absurd e1 h0
   ·exact absurd e1 h0
  rw[this] at hs ⊢
  refine aA.pre (ms':=[.ptr v 0 0,.ptr b 0 0,.lst 2 [] false]) rfl (bA.less (fun p hp=>?_) (St.le_refl _)) hs
  simp only[iG,List.mem_cons,List.not_mem_nil,or_false] at hp
  rcases hp with rfl|rfl|rfl
  ·exact .same _
  ·exact .same _
  ·exact .nil _ _
end

section
theorem Ws{m l q b f sm g v:Nat}{B:BK}{fl:List ND}{d:Bool}{mk:UInt32}{z:VS}{ex:List (List MV)}(V:kZ m l q b f sm g v):(bkS m l q b B []).le (vwS m l q b B f fl d sm g v mk z ex):=by
 obtain⟨D,⟨f1,f2,f3,f4⟩,⟨s1,s2,s3,s4,s5⟩,⟨g1,g2,g3,g4,g5,g6⟩,⟨v1,v2,v3,v4,v5,v6,v7⟩⟩:=V
 exact eP (eP (eP (eP (St.le_refl _) (dV f1 f2 f3 f4)) (dV s1 s2 s3 s4)) (dV g1 g2 g3 g4)) (dV v1 v2 v3 v4)
theorem E0{m l q b f sm g v:Nat}{B:BK}{fl:List ND}{d:Bool}{mk:UInt32}{z:VS}{ex:List (List MV)}{j:Nat}:vwS m l q b B f fl d sm g v mk z ex j=none↔j≠v∧j≠g∧j≠sm∧j≠f∧j≠b∧j≠q∧j≠l∧j≠m:=by
 simp only[aV]
 exact⟨fun⟨a,b,c,d,e,f,g,h,_⟩=>⟨a,b,c,d,e,f,g,h⟩,fun⟨a,b,c,d,e,f,g,h⟩=>⟨a,b,c,d,e,f,g,h,rfl⟩⟩
theorem Uz{m l q q' b f sm g v:Nat}{B B':BK}{fl:List ND}{d:Bool}{mk:UInt32}{z:VS}{ex:List (List MV)}{τ:St}(V:kZ m l q b f sm g v)(D':dM m l q' b)(h1:(bkS m l q' b B' []).le τ)(h2:∀j o,vwS m l q b B f fl d sm g v mk z ex j=some o→bkS m l q b B [] j=none→τ j=some o∧bkS m l q' b B' [] j=none) :
  kZ m l q' b f sm g v∧(vwS m l q' b B' f fl d sm g v mk z ex).le τ:=by
 obtain⟨D,⟨f1,f2,f3,f4⟩,⟨s1,s2,s3,s4,s5⟩,⟨g1,g2,g3,g4,g5,g6⟩,⟨v1,v2,v3,v4,v5,v6,v7⟩⟩:=V
 have a1:=h2 v _ (aD _ _ _) (dV v1 v2 v3 v4)
 have a2:=h2 g (lgO z.log ex) (by simp[St.set,Ne.symm v7]) (dV g1 g2 g3 g4)
 have a3:=h2 sm (.mp (shE z.sh)) (by simp[St.set,Ne.symm v6,Ne.symm g6]) (dV s1 s2 s3 s4)
 have a4:=h2 f (flD fl d) (by simp[St.set,Ne.symm v5,Ne.symm g5,Ne.symm s5]) (dV f1 f2 f3 f4)
 obtain⟨b1,c1⟩:=a1
 obtain⟨b2,c2⟩:=a2
 obtain⟨b3,c3⟩:=a3
 obtain⟨b4,c4⟩:=a4
 refine⟨⟨D',?_,?_,?_,?_⟩,St.aB (St.aB (St.aB (St.aB h1 b4) b3) b2) b1⟩
 ·simp only[aV] at c4;exact⟨f1,f2,c4.2.1,f4⟩
 ·simp only[aV] at c3;exact⟨s1,s2,c3.2.1,s4,s5⟩
 ·simp only[aV] at c2;exact⟨g1,g2,c2.2.1,g4,g5,g6⟩
 ·simp only[aV] at c1;exact⟨v1,v2,c1.2.1,v4,v5,v6,v7⟩
end
end Go.Proofs.YtppdgejjmhdjhaaGreatDoor
