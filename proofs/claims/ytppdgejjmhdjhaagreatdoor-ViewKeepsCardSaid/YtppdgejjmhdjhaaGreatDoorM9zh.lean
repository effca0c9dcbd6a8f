/- Parts of the proof; conditions: as its theorems name them. -/
import Derived.Test.YtppdgejjmhdjhaaGreatDoorM9zg
set_option linter.unusedVariables false
set_option linter.unusedSimpArgs false
set_option maxHeartbeats 8000000
set_option maxRecDepth 100000
namespace Go.Proofs.YtppdgejjmhdjhaaGreatDoor
section
theorem aV.IE{v:MV}{σ:St}(q o:Nat){oq:aW}{t:TypeId}{e:Nat}(pre post:List MV){m m1:MV}(hq:σ q=some oq)(ho:σ o=some (.row t e [pre++m::post]))(hne:o≠q)(hv:View (St.none.set q oq) m m1)(hc:m1.aL=true) :
  aV ⟨1,[(0,v)],[]⟩ σ ⟨1,[(0,v)],[]⟩ ((σ.del q).set o (.row t e [pre++m1::post])) :=
 aV.Cg q o pre post hq ho hne hv hc (aD _ _ _) (fun k x hk=>by
  by_cases h1:k=o
  ·subst h1;exact⟨hne,.inl rfl⟩
  ·rw[aF _ _ _ _ h1] at hk
   simp only[St.del] at hk
   split at hk
   ·cases hk
   ·exact⟨by assumption,.inr hk⟩) (fun p hp=>by simp at hp;subst hp;exact .same _)
abbrev dO(B:BK):aW:=.row 41 5 [B.c]
theorem Oh(o:Nat)(B:BK)(hl:B.cards.length≤1000000)(p:PA)(hp:bH p=0)(h0:0≤B.nx)(h1:B.nx≤1073741824) :
  aA Tryz.prog 82 [.ptr o 0 1,.agg p.c] (St.none.set o (dO B)) (fun v σ'=>if 48≤B.cards.length∨1073741824≤B.nx then v=.tup [.agg ca0.c,.int .i64 8]∧σ'=St.none.set o (dO B)
   else v=.tup [.agg (cA B.nx p).c,.int .i64 0]∧σ'=St.none.set o (dO ⟨B.sq,B.nx+1,B.cards++[cA B.nx p],B.dead,B.gr⟩)):=by
 have hcp:=k0 p
 rw[hp] at hcp
 by_cases hf:48≤B.cards.length∨1073741824≤B.nx
 ·simp only[if_pos hf]
  refine aA.less (Q':=fun v σ'=>v=.tup [.agg ca0.c,.int .i64 8]∧(St.none.set o (dO B)).le σ') (mB 55 [.cell 4 126,.tmp 5] Tryz.func82 ?_) fun v σ' h=>⟨_,h.2,h.1,rfl⟩
  repeat' first|(refine aC hcp ?_)|(refine wM ?_;(first|(have _:=nl2)|(have _:=nl1;intro nl2)|(intro nl1));intros)|(refine wY ?_ ?_<;>intro h)|refine wZ2 @Tryz.f82.eq_1 @FXs ?_|fail
  all_goals (try (exfalso;omega))
  all_goals exact⟨rfl,St.bQ (St.bQ (St.le_refl _) (by simp[St.set,St.none, *])) (by simp[St.set,St.none, *])⟩
 ·simp only[if_neg hf]
  have hfr:=Hu B.nx p
  obtain⟨c,hc⟩:∃c,cA B.nx p=c:=⟨_,rfl⟩
  rw[hc] at hfr ⊢
  obtain⟨C,c1⟩:∃C:cC,∀ms,C 165 ms=some ⟨[],fun v=>v=.agg c.c,none⟩:=⟨sD 165 (.agg c.c),fun _=>fB⟩
  have hml:(B.cards.map CA.c).length=B.cards.length:=List.length_map _
  have hq:(B.cards++[c]).map CA.c=B.cards.map CA.c++[c.c]:=List.map_append
  refine aA.gh (mB 55 [.cell 4 126,.tmp 5] Tryz.func82 ?_)
  repeat' first|(refine aC hcp ?_)|((with_reducible refine aI mixed ?chk C ?_);(case chk=>decide +kernel))|(with_reducible refine aG (c1 _) hfr ?_)|(refine wM ?_;(first|(have _:=nl7)|(have _:=nl6;intro nl7)|(have _:=nl5;intro nl6)|(have _:=nl4;intro nl5)|(have _:=nl3;intro nl4)|(have _:=nl2;intro nl3)|(have _:=nl1;intro nl2)|(intro nl1));intros)|refine wZ3 @Tryz.f82.eq_1 @FXs @hml ?_|fail
  all_goals (try (exfalso;omega))
  all_goals
   have n7:o≠nl7:=by assumption
   refine .step (aV.IE nl7 o (oq:=.row 126 27 (B.cards.map CA.c++[c.c])) (t:=41) (e:=5) (m:=.vec 27 nl7 0 (B.cards.length+1)) [.int .i64 B.sq,.int .i64 (B.nx+1)] [.lst 3 (B.dead.map DE.c) false,.lst 2 (B.gr.map GR.c) false] (m1:=.lst 27 (B.cards.map CA.c++[c.c]) false) sS sS n7 (View.vecAll (aD _ _ _) (by simp)) rfl) (.of (aV.drop (σ1:=St.none.set o (dO ⟨B.sq,B.nx+1,B.cards++[c],B.dead,B.gr⟩)) (St.aB (St.none_le _) (by rw[aD,dO,BK.c,hq];rfl))) ⟨_,rfl,rfl,rfl⟩)
end

section
theorem Ep(o:Nat){B:BK}(hb:BkW B)(id:Int)(p:PA)(hp:bH p=0)(hw:(bD B.cards B.dead id).2≠0∨1099511627776≤(bD B.cards B.dead id).1.ver) :
  aA Tryz.prog 83 [.ptr o 0 1,.int .i64 id,.agg p.c] (St.none.set o (dO B)) (fun v σ'=>v=.tup [.agg ca0.c,.int .i64 (wrE B.cards B.dead id)]∧σ'=St.none.set o (dO B)):=by
 have hcp:=k0 p
 rw[hp] at hcp
 have hnc:=hb.nc
 have hnd:=hb.nd
 have hg:=nM B.nx B.cards B.dead oM oM hb.ups id
 unfold wrE
 obtain⟨⟨c,e⟩,hce⟩:∃z,bD B.cards B.dead id=z:=⟨_,rfl⟩
 rw[hce] at hg hw ⊢
 refine aA.less (Q':=fun v σ'=>v=.tup [.agg ca0.c,.int .i64 (if e≠0 then e else 8)]∧(St.none.set o (dO B)).le σ') (mB 57 [.cell 6 126,.tmp 7] Tryz.func83 ?_) fun v σ' h=>⟨_,h.2,h.1,rfl⟩
 by_cases he:e=0
 ·subst he
  have hv:=hw.resolve_left fun h=>h rfl
  rw[if_neg (by decide)]
  simp only at hv hg
  clear hw
  repeat' first|(refine aC hcp ?_)|(refine aC hg ?_)|(refine wO ?_;intros)|refine wZ2 @Tryz.f83.eq_1 @FXs ?_|fail
  all_goals (try (exfalso;omega))
  all_goals exact⟨rfl,St.bQ (St.bQ (St.bQ (St.le_refl _) (by simp[St.set,St.none, *])) (by simp[St.set,St.none, *])) (by simp[St.set,St.none, *])⟩
 ·rw[if_pos he]
  simp only at hg
  clear hw
  repeat' first|(refine aC hcp ?_)|(refine aC hg ?_)|(refine wO ?_;intros)|refine wZ2 @Tryz.f83.eq_1 @FXs ?_|fail
  all_goals (try (exfalso;omega))
  all_goals exact⟨rfl,St.bQ (St.bQ (St.bQ (St.le_refl _) (by simp[St.set,St.none, *])) (by simp[St.set,St.none, *])) (by simp[St.set,St.none, *])⟩
theorem HD(o:Nat){B:BK}(hb:BkW B)(id:Int)(p:PA)(hp:bH p=0){c:CA}(hc:bD B.cards B.dead id=(c,0))(hv:c.ver<1099511627776) :
  aA Tryz.prog 83 [.ptr o 0 1,.int .i64 id,.agg p.c] (St.none.set o (dO B)) (fun v σ'=>v=.tup [.agg (dB c p).c,.int .i64 0]∧σ'=St.none.set o (dO ⟨B.sq,B.nx,wrC B.cards id (dB c p),B.dead,B.gr⟩)):=by
 have hcp:=k0 p
 rw[hp] at hcp
 have hnc:=hb.nc
 have hnd:=hb.nd
 have hg:=nM B.nx B.cards B.dead oM oM hb.ups id
 have hpl:=qF B.nx B.cards B.dead oM hb.ups id
 have hok:=sG (cs:=B.cards) (ds:=B.dead) (id:=id) (by rw[hc])
 rw[hc] at hg hok
 obtain⟨hm,hid⟩:=hok
 simp only at hg hm hid
 have hci:=(fN (hb.cds c hm).1).1
 have hin:id∈B.cards.map CA.id:=List.mem_map.2 ⟨c,hm,hid⟩
 have hset:wrC B.cards id (dB c p)=B.cards.set (aQ (B.cards.map CA.id) id) (dB c p):=yV (f:=CA.id) hb.ups hin _
 obtain⟨y,hy,-⟩:=oC (f:=CA.id) hb.ups hin
 have hib:=(List.getElem?_eq_some_iff.1 hy).1
 have hat:=bF (f:=CA.c) hy
 unfold JZ at hpl
 rw[if_pos hin] at hpl
 rw[hset]
 have hme:=xW c p oM oM
 obtain⟨x,hx⟩:∃x,dB c p=x:=⟨_,rfl⟩
 rw[hx] at hme ⊢
 obtain⟨i,hi⟩:∃i,aQ (B.cards.map CA.id) id=i:=⟨_,rfl⟩
 rw[hi] at hpl hib hat ⊢
 obtain⟨C,c1,c2⟩:=kw2 168 ⟨[],fun v=>v=.int .i64 (i:Int),none⟩ 167 ⟨[],fun v=>v=.agg x.c,none⟩
 have hml:(B.cards.map CA.c).length=B.cards.length:=List.length_map _
 have hq:(B.cards.set i x).map CA.c=(B.cards.map CA.c).set i x.c:=List.map_set
 have hln:((B.cards.map CA.c).set i x.c).length=B.cards.length:=by rw[List.length_set,hml]
 clear hy hi hset hin hm hid hci
 refine aA.gh (mB 57 [.cell 6 126,.tmp 7] Tryz.func83 ?_)
 repeat' first|(refine aC hcp ?_)|(refine aC hg ?_)|((with_reducible refine aI mixed ?chk C ?_);(case chk=>decide +kernel))|(with_reducible refine aG (c1 _) hpl ?_)|(with_reducible refine aG (c2 _) hme ?_)|(refine aC hme ?_)|(refine wM ?_;(first|(have _:=nl5)|(have _:=nl4;intro nl5)|(have _:=nl3;intro nl4)|(have _:=nl2;intro nl3)|(have _:=nl1;intro nl2)|(intro nl1));intros)|refine wZ4 @Tryz.f83.eq_1 @FXs @hml @hat ?_|fail
 all_goals (try (exfalso;omega))
 all_goals
  have n5:o≠nl5:=by assumption
  refine .step (aV.IE nl5 o (oq:=.row 126 27 ((B.cards.map CA.c).set i x.c)) (t:=41) (e:=5) (m:=.vec 27 nl5 0 B.cards.length) [.int .i64 B.sq,.int .i64 B.nx] [.lst 3 (B.dead.map DE.c) false,.lst 2 (B.gr.map GR.c) false] (m1:=.lst 27 ((B.cards.map CA.c).set i x.c) false) sS sS n5 (View.vecAll (aD _ _ _) hln.symm) rfl) (.of (aV.drop (σ1:=St.none.set o (dO ⟨B.sq,B.nx,B.cards.set i x,B.dead,B.gr⟩)) (St.aB (St.none_le _) (by rw[aD,dO,BK.c,hq];rfl))) ⟨_,rfl,rfl,rfl⟩)
end

section
theorem aV.two{v:MV}{σ:St}{o q1 q2 n1 lo n2:Nat}{a b:Int}{G:MV}{t1 t2:TypeId}{xs ys zs:List (List MV)}(h0:σ o=some (.row 41 5 [[.int .i64 a,.int .i64 b,.vec 27 q1 0 n1,.vec 3 q2 lo n2,G]]))(h1:σ q1=some (.row t1 27 xs))(h2:σ q2=some (.row t2 3 ys))
 (hn:n1=xs.length)(hz:(ys.drop lo).take n2=zs)(hle:lo+n2≤ys.length)(e1:o≠q1)(e2:o≠q2)(e3:q1≠q2):aV ⟨1,[(0,v)],[]⟩ σ ⟨1,[(0,v)],[]⟩ (St.none.set o (.row 41 5 [[.int .i64 a,.int .i64 b,.lst 27 xs false,.lst 3 zs false,G]])):=by
 refine(aV.IE q1 o [.int .i64 a,.int .i64 b] [.vec 3 q2 lo n2,G] (m1:=.lst 27 xs false) h1 h0 e1 (View.vecAll (aD _ _ _) hn) rfl).trans ((aV.IE q2 o [.int .i64 a,.int .i64 b,.lst 27 xs false] [G] (m1:=.lst 3 zs false) (oq:=.row t2 3 ys) ?_ (aD _ _ _) e2 ?_ rfl).trans (aV.drop (St.aB (St.none_le _) (aD _ _ _))))
 ·rw[aF _ _ _ _ (Ne.symm e2)]
  simp[St.del,Ne.symm e3,h2]
 ·rw[←hz]
  exact View.vec (aD _ _ _) hle
theorem Hm(o:Nat){B:BK}(hb:BkW B)(id sq:Int)(he:(bD B.cards B.dead id).2≠0) :
  aA Tryz.prog 84 [.ptr o 0 1,.int .i64 id,.int .i64 sq] (St.none.set o (dO B)) (fun v σ'=>v=.int .i64 (bD B.cards B.dead id).2∧σ'=St.none.set o (dO B)):=by
 have hnc:=hb.nc
 have hnd:=hb.nd
 have hg:=nM B.nx B.cards B.dead oM oM hb.ups id
 obtain⟨⟨c,e⟩,hce⟩:∃z,bD B.cards B.dead id=z:=⟨_,rfl⟩
 rw[hce] at hg he ⊢
 simp only at hg he
 refine aA.less (Q':=fun v σ'=>v=.int .i64 e∧(St.none.set o (dO B)).le σ') (mB 99 [.tmp 6] Tryz.func84 ?_) fun v σ' h=>⟨_,h.2,h.1,rfl⟩
 repeat' first|(refine aC hg ?_)|(refine wO ?_;intros)|refine wZ2 @Tryz.f84.eq_1 @FXs ?_|fail
 all_goals (try (exfalso;omega))
 all_goals exact St.bQ (St.le_refl _) (by simp[St.set,St.none, *])
theorem Hn(o:Nat){B:BK}(hb:BkW B)(id:Int){c:CA}(hc:bD B.cards B.dead id=(c,0))(h1:B.sq<1099511627776) :
  aA Tryz.prog 84 [.ptr o 0 1,.int .i64 id,.int .i64 (B.sq+1)] (St.none.set o (dO B)) (fun v σ'=>v=.int .i64 0∧σ'=St.none.set o (dO ⟨B.sq,B.nx,B.cards.filter (fun c=>!decide (c.id=id)),pC (B.dead++[⟨id,c.ver,B.sq+1⟩]),B.gr⟩)):=by
 have hnc:=hb.nc
 have hnd:=hb.nd
 have hsq:=hb.sq1
 have hg:=nM B.nx B.cards B.dead oM oM hb.ups id
 have hpl:=qF B.nx B.cards B.dead oM hb.ups id
 have hok:=sG (cs:=B.cards) (ds:=B.dead) (id:=id) (by rw[hc])
 rw[hc] at hg hok
 obtain⟨hm,hid⟩:=hok
 simp only at hg hm hid
 have hin:id∈B.cards.map CA.id:=List.mem_map.2 ⟨c,hm,hid⟩
 have hout:B.cards.filter (fun c=>!decide (c.id=id))=_:=yU (f:=CA.id) hb.ups hin
 obtain⟨y,hy,-⟩:=oC (f:=CA.id) hb.ups hin
 have hib:=(List.getElem?_eq_some_iff.1 hy).1
 unfold JZ at hpl
 rw[if_pos hin] at hpl
 rw[hout]
 obtain⟨i,hi⟩:∃i,aQ (B.cards.map CA.id) id=i:=⟨_,rfl⟩
 rw[hi] at hpl hib ⊢
 have hml:(B.cards.map CA.c).length=B.cards.length:=List.length_map _
 have hdl:(B.dead.map DE.c).length=B.dead.length:=List.length_map _
 have ht:((B.cards.map CA.c).take i).length=i:=by rw[List.length_take];omega
 have hq1:(B.cards.take i++B.cards.drop (i+1)).map CA.c=(B.cards.map CA.c).take i++(B.cards.map CA.c).drop (i+1):=by simp
 have hq2:(B.dead++[(⟨id,c.ver,B.sq+1⟩:DE)]).map DE.c=B.dead.map DE.c++[[.int .i64 id,.int .i64 c.ver,.int .i64 (B.sq+1)]]:=List.map_append
 have hn1:((B.cards.map CA.c).take i++(B.cards.map CA.c).drop (i+1)).length=i+(B.cards.length - (i+1)):=by rw[List.length_append,ht,List.length_drop,hml]
 have hlast:B.dead.length=0∨0<B.dead.length∧∃d,((B.dead.map DE.c).getD (B.dead.length - 1) []=DE.c d)∧d.sq≤B.sq:=by
  rcases Nat.eq_zero_or_pos B.dead.length with h|h
  ·exact .inl h
  ·obtain⟨d,hd'⟩:=bW B.dead (show B.dead.length - 1<B.dead.length by omega)
   exact .inr ⟨h,d,bF hd',hb.dsq d (eD hd')⟩
 have hdn:((B.dead.length:Int) - 1).toNat=B.dead.length - 1:=by omega
 clear hy hi hout hin hm hid
 refine aA.gh (mB 99 [.tmp 6] Tryz.func84 ?_)
 have hmin:min i B.cards.length=i:=by omega
 have hcap:B.dead.length+1≤40→pC (B.dead++[⟨id,c.ver,B.sq+1⟩])=B.dead++[⟨id,c.ver,B.sq+1⟩]:=fun h=>if_neg (by rw[List.length_append,List.length_singleton];omega)
 have hfin:∀D:List DE,(dO ⟨B.sq,B.nx,B.cards.take i++B.cards.drop (i+1),D,B.gr⟩)=.row 41 5 [[.int .i64 B.sq,.int .i64 B.nx,.lst 27 ((B.cards.take i++B.cards.drop (i+1)).map CA.c) false,.lst 3 (D.map DE.c) false,.lst 2 (B.gr.map GR.c) false]]:=fun D=>rfl
 rcases hlast with hz|⟨hpos,d,hat,hds⟩
 ·repeat' first|(refine aC hg ?_)|(refine aC hpl ?_)|(refine wM ?_;(first|(have _:=nl8)|(have _:=nl7;intro nl8)|(have _:=nl6;intro nl7)|(have _:=nl5;intro nl6)|(have _:=nl4;intro nl5)|(have _:=nl3;intro nl4)|(have _:=nl2;intro nl3)|(have _:=nl1;intro nl2)|(intro nl1));intros)|refine wV ?_|refine wZ6 @Tryz.f84.eq_1 @FXs @hml @hdl @ht @hz ?_|fail
  all_goals (try (exfalso;omega))
  all_goals
   have w1:o≠nl4:=by assumption
   have w2:o≠nl8:=by assumption
   have w3:nl4≠nl8:=by assumption
   have w4:nl4≠nl7:=by assumption
   rw[hcap oM,hfin]
   refine .of (aV.two (q1:=nl4) (q2:=nl8) (lo:=0) (n2:=1) (n1:=min i B.cards.length+(B.cards.length - (i+1))) (t1:=126) (t2:=197) (xs:=(B.cards.take i++B.cards.drop (i+1)).map CA.c) (ys:=(B.dead++[(⟨id,c.ver,B.sq+1⟩:DE)]).map DE.c) (aD _ _ _) ?_ ?_ ?_ ?_ ?_ w1 w2 w3) ⟨_,rfl,rfl,rfl⟩
   ·rw[aF _ _ _ _ (Ne.symm w1),aF _ _ _ _ w3,aF _ _ _ _ w4,aD]
   ·rw[aF _ _ _ _ (Ne.symm w2),aD,hq2]
   ·rw[hq1,hn1,hmin]
   ·rw[List.drop_zero]
    exact List.take_of_length_le (by rw[List.length_map,List.length_append,List.length_singleton];omega)
   ·rw[List.length_map,List.length_append,List.length_singleton];omega
 ·repeat' first|(refine aC hg ?_)|(refine aC hpl ?_)|(refine wM ?_;(first|(have _:=nl8)|(have _:=nl7;intro nl8)|(have _:=nl6;intro nl7)|(have _:=nl5;intro nl6)|(have _:=nl4;intro nl5)|(have _:=nl3;intro nl4)|(have _:=nl2;intro nl3)|(have _:=nl1;intro nl2)|(intro nl1));intros)|refine wV ?_|(refine wY ?_ ?_<;>intro h)|refine wZ7 @Tryz.f84.eq_1 @FXs @hml @hdl @ht @hdn @hat ?_|fail
  all_goals (try (exfalso;omega))
  all_goals
   have w1:o≠nl4:=by assumption
   have w2:o≠nl8:=by assumption
   have w3:nl4≠nl8:=by assumption
   have w4:nl4≠nl7:=by assumption
  ·have h40:B.dead.length=40:=by omega
   obtain⟨y,L',hcp,hL',hw⟩:=zF (t:=(⟨id,c.ver,B.sq+1⟩:DE)) h40
   rw[hcp,hfin]
   refine .of (aV.two (q1:=nl4) (q2:=nl8) (lo:=1) (n2:=B.dead.length) (n1:=min i B.cards.length+(B.cards.length - (i+1))) (t1:=126) (t2:=197) (xs:=(B.cards.take i++B.cards.drop (i+1)).map CA.c) (ys:=(B.dead++[(⟨id,c.ver,B.sq+1⟩:DE)]).map DE.c) (aD _ _ _) ?_ ?_ ?_ ?_ ?_ w1 w2 w3) ⟨_,rfl,rfl,rfl⟩
   ·rw[aF _ _ _ _ (Ne.symm w1),aF _ _ _ _ w3,aF _ _ _ _ w4,aD]
   ·rw[aF _ _ _ _ (Ne.symm w2),aD,hq2]
   ·rw[hq1,hn1,hmin]
   ·have:=hw []
    rw[List.append_nil] at this
    rw[hq2,h40]
    exact this
   ·rw[List.length_map,List.length_append,List.length_singleton];omega
  ·rw[hcap oM,hfin]
   refine .of (aV.two (q1:=nl4) (q2:=nl8) (lo:=0) (n2:=B.dead.length+1) (n1:=min i B.cards.length+(B.cards.length - (i+1))) (t1:=126) (t2:=197) (xs:=(B.cards.take i++B.cards.drop (i+1)).map CA.c) (ys:=(B.dead++[(⟨id,c.ver,B.sq+1⟩:DE)]).map DE.c) (aD _ _ _) ?_ ?_ ?_ ?_ ?_ w1 w2 w3) ⟨_,rfl,rfl,rfl⟩
   ·rw[aF _ _ _ _ (Ne.symm w1),aF _ _ _ _ w3,aF _ _ _ _ w4,aD]
   ·rw[aF _ _ _ _ (Ne.symm w2),aD,hq2]
   ·rw[hq1,hn1,hmin]
   ·rw[List.drop_zero]
    exact List.take_of_length_le (by rw[List.length_map,List.length_append,List.length_singleton];omega)
   ·rw[List.length_map,List.length_append,List.length_singleton];omega
end
end Go.Proofs.YtppdgejjmhdjhaaGreatDoor
