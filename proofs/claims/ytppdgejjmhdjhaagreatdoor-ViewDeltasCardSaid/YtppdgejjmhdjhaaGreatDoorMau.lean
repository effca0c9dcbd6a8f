/- Parts of the proof; conditions: as its theorems name them. -/
import Derived.Test.YtppdgejjmhdjhaaGreatDoorMar
set_option linter.unusedVariables false
set_option linter.unusedSimpArgs false
set_option maxHeartbeats 8000000
set_option maxRecDepth 100000
namespace Go.Proofs.YtppdgejjmhdjhaaGreatDoor
noncomputable def shC(B:BK)(fl:List ND):List CA:=B.cards.filter (eR B.gr fl)
noncomputable abbrev vwR(fl:List ND)(d:Bool)(f sm v:Nat)(mk:UInt32)(floor now:Int)(log:MV)(cs:List CA):St:=((St.none.set f (flD fl d)).set sm (.mp (vEs cs))).set v (vwO f mk sm floor now log)
structure UU (f sm v:Nat):Prop where
 sf:sm≠f
 vf:v≠f
 vs:v≠sm
theorem Ki{B:BK}(hb:BkR B)(h3:B.gr.length≤1000000)(h4:∀g,g∈B.gr→g.mem.length≤1000000){m l q b:Nat}(D:dM m l q b)(ex:List (List MV)){fl:List ND}(hp:cR fl=0)(tt:Bool){mk:UInt32}(hm:mk.toNat≤511) :
  aA Tryz.prog 15 [.ptr b 0 0,.lst 5 (fl.map ND.c) tt,.int .u32 (mk.toNat:Int)] (bkS m l q b B ex) (fun r σ'=>∃ρ:St,(∀j o,ρ j=some o→bkS m l q b B ex j=none)∧σ'=ρ.over (bkS m l q b B ex)∧∃f sm v d,UU f sm v∧r=.ptr v 0 0∧ρ=vwR fl d f sm v mk B.sq B.sq .aM (shC B fl)):=by
 refine aA.less (Q':=fun r σ'=>∃f sm v d,UU f sm v∧r=.ptr v 0 0∧(∀j,(j=f∨j=sm∨j=v)→bkS m l q b B ex j=none)∧(bkS m l q b B ex).le σ'∧(vwR fl d f sm v mk B.sq B.sq .aM (shC B fl)).le σ') (mB 60 [.tmp 6] Tryz.func15 ?_) fun v σ' h=>?_
 rotate_left
 ·obtain⟨f,sm,v,d,hd,rfl,hn,h1,h2⟩:=h
  have hfr:∀j o,vwR fl d f sm v mk B.sq B.sq .aM (shC B fl) j=some o→bkS m l q b B ex j=none:=fun j o hj=>hn j (by
   by_cases j1:j=v
   ·exact .inr (.inr j1)
   ·by_cases j2:j=sm
    ·exact .inr (.inl j2)
    ·by_cases j3:j=f
     ·exact .inl j3
     ·simp[St.set,St.none,j1,j2,j3] at hj)
  refine⟨(vwR fl d f sm v mk B.sq B.sq .aM (shC B fl)).over (bkS m l q b B ex),fun j o hj=>?_,_,hfr,rfl,f,sm,v,d,hd,rfl,rfl⟩
  rcases jS hj with hj|⟨_,hj⟩
  ·exact h2 j o hj
  ·exact h1 j o hj
 have hpn:=J0 fl (by have:=(y6 hp).2.2;omega) tt hp
 have hmc:=uD mk
 rw[decide_eq_true hm] at hmc
 have hri:=Kk hb.cok hb.nx2 (by have:=hb.nc;omega)
 have hsq:=G8 B.sq l b (.lst 2 (B.gr.map GR.c) false)
 have hcs:=BH B.nx B.sq (.vec 3 q 0 B.dead.length) (.lst 2 (B.gr.map GR.c) false) B.cards D.lm D.bm D.bl hri
 have hgr:=p8 B.sq l b B.gr h3 h4 hb.gok
 have hnc:=hb.nc
 obtain⟨d1,d2,d3,d4,d5,d6⟩:=D
 have e1:=Ne.symm d1
 have e2:=Ne.symm d2
 have e3:=Ne.symm d3
 have e4:=Ne.symm d4
 have e5:=Ne.symm d5
 have e6:=Ne.symm d6
 repeat' first|(refine gZ hpn ?_;(intro f hf;try (simp only[aV] at hf;obtain⟨f1,f2,f3,f4,-⟩:=hf;have f1':=Ne.symm f1;have f2':=Ne.symm f2;have f3':=Ne.symm f3;have f4':=Ne.symm f4)))|(refine b6 hsq (St.aB (St.none_le _) sS) ?_)|(refine b6 hcs (St.aB (le2 sS sS) sS) ?_)|(with_reducible first|refine up hmc ?_)|(refine wM ?_;(first|(have _:=nl2)|(have _:=nl1;intro nl2)|(intro nl1));intros)|refine wZ1 @Tryz.f15.eq_1 ?_|fail
 have n1:nl1≠b:=by assumption
 have n2:nl1≠q:=by assumption
 have n3:nl1≠l:=by assumption
 have n4:nl1≠m:=by assumption
 have n5:nl1≠f:=by assumption
 have v1:nl2≠b:=by assumption
 have v2:nl2≠q:=by assumption
 have v3:nl2≠l:=by assumption
 have v4:nl2≠m:=by assumption
 have v5:nl2≠f:=by assumption
 have v6:nl2≠nl1:=by assumption
 obtain⟨PB,hPB⟩:∃PB,PB=eR B.gr fl:=⟨_,rfl⟩
 refine aF (α:=Nat × Bool) (fun z=>⟨60,[(36,.int .i64 (z.1:Int)),(35,.int .i64 (B.cards.length:Int)),(34,.lst 27 (B.cards.map CA.c) false),(8,.ptr nl2 0 0),(0,.ptr b 0 0)],[]⟩)
  (fun z=>(((bkS m l q b B ex).set f (flD fl z.2)).set nl1 (.mp (vEs ((B.cards.take z.1).filter PB)))).set nl2 (vwO f mk nl1 B.sq B.sq .aM)) (fun z=>z.1≤B.cards.length) (fun z=>B.cards.length - z.1) (.of (.less ?_ (St.le_refl _)) ⟨(0,false),rfl,rfl,Nat.zero_le _⟩) ?_
 ·exact wW
 ·rintro⟨i,d⟩ hi
  have hi:i≤B.cards.length:=hi
  by_cases hlt:i<B.cards.length
  ·obtain⟨x,hx⟩:=bU B.cards hlt
   have hat:=bN (f:=CA.c) hx
   have htk:=aZ hx
   have hmt:=xR hp hb.gok (Dh hb (dY hx)).1 f d
   have hgx:=hgr x.id
   have hall:=Ti ((B.cards.take i).filter PB)
   have hput:dG .i64 x.id (.int .i64 x.ver) (vEs ((B.cards.take i).filter PB))=vEs ((B.cards.take i).filter PB++[x]):=FQ fun hm=>by
    obtain⟨c,hc,he⟩:=List.mem_map.1 hm
    have hc:=(List.mem_filter.1 hc).1
    have hpw:=hri.1
    rw[A7 B.cards hx,List.pairwise_append] at hpw
    have:=hpw.2.2 c hc x (by simp)
    omega
   have hflt:(B.cards.take (i+1)).filter PB=(B.cards.take i).filter PB++(if PB x=true then[x] else[]):=by
    rw[htk,List.filter_append]
    congr 1
    by_cases h:PB x=true
    ·simp[h]
    ·simp[h]
   obtain⟨C,c1⟩:=kw1 67 ⟨[b],fun v=>v=.int .u32 (grB B.gr x.id:Int),none⟩
   rw[←hPB] at hmt
   obtain⟨es,hes⟩:∃es,(B.cards.take i).filter PB=es:=⟨_,rfl⟩
   rw[hes] at hall hput hflt ⊢
   obtain⟨sb,hsb⟩:∃sb,PB x=sb:=⟨_,rfl⟩
   rw[hsb] at hmt hflt
   obtain⟨g,hg⟩:∃g:Int,(grB B.gr x.id:Int)=g:=⟨_,rfl⟩
   rw[hg] at hmt hgx c1
   cases sb
   ·rw[if_neg (by simp),List.append_nil] at hflt
    repeat' first|(refine cA mixed C [_,_,_,_,_,_,_,_,_] [] rfl dK ?_)|(refine mO [b] [bG B.sq l (.lst 2 (B.gr.map GR.c) false)] (c1 _) sS hgx ?_)|(refine cU sS hmt ?_)|(refine wM ?_;intros)|refine wZ2 @FXs @hat ?_|fail
    all_goals (try (exfalso;omega))
    refine .of (.less ?_ (σ1:=(((bkS m l q b B ex).set f (flD fl true)).set nl1 (.mp (vEs (es)))).set nl2 (vwO f mk nl1 B.sq B.sq .aM)) (i6 (by clear hgx hmt c1 hall hflt hat htk;simp[St.set,St.none, *]))) ⟨(i+1,true),rfl,by simp only[hflt],(by omega:i+1≤B.cards.length),by simp only;omega⟩
    exact wW
   ·rw[if_pos rfl] at hflt
    repeat' first|(refine cA mixed C [_,_,_,_,_,_,_,_,_] [] rfl dK ?_)|(refine mO [b] [bG B.sq l (.lst 2 (B.gr.map GR.c) false)] (c1 _) sS hgx ?_)|(refine cU sS hmt ?_)|(refine wM ?_;intros)|refine wV ?_|refine wZ4 @FXs @hat @hall @hput ?_|fail
    all_goals (try (exfalso;omega))
    refine .of (.less ?_ (σ1:=(((bkS m l q b B ex).set f (flD fl true)).set nl1 (.mp (vEs (es++[x])))).set nl2 (vwO f mk nl1 B.sq B.sq .aM)) (i6 (by clear hgx hmt c1 hall hflt hat htk;simp[St.set,St.none, *]))) ⟨(i+1,true),rfl,by simp only[hflt],(by omega:i+1≤B.cards.length),by simp only;omega⟩
    exact wW
  ·have:i=B.cards.length:=by omega
   subst this
   rw[List.take_length]
   repeat' first|refine wZ0 ?_|fail
   have hfin:∀{σ:St},σ=(((bkS m l q b B ex).set f (flD fl d)).set nl1 (.mp (vEs (B.cards.filter PB)))).set nl2 (vwO f mk nl1 B.sq B.sq .aM)→∃f sm v d,UU f sm v∧MV.ptr nl2 0 0=.ptr v 0 0∧(∀j,(j=f∨j=sm∨j=v)→bkS m l q b B ex j=none)∧(bkS m l q b B ex).le σ∧(vwR fl d f sm v mk B.sq B.sq .aM (shC B fl)).le σ:=fun {σ} hσ=>by
    subst hσ
    subst hPB
    have q1:bkS m l q b B ex f=none:=by simp[St.set,St.none,f1,f2,f3,f4]
    have q2:bkS m l q b B ex nl1=none:=by simp[St.set,St.none,n1,n2,n3,n4]
    have q3:bkS m l q b B ex nl2=none:=by simp[St.set,St.none,v1,v2,v3,v4]
    refine⟨f,nl1,nl2,d,⟨n5,v5,v6⟩,rfl,fun j hj=>?_,?_,?_⟩
    ·rcases hj with rfl|rfl|rfl<;>assumption
    ·intro j o hj
     rw[aG _ _ _ _ (fun e=>by subst e;rw[q3] at hj;cases hj),aG _ _ _ _ (fun e=>by subst e;rw[q2] at hj;cases hj),aG _ _ _ _ (fun e=>by subst e;rw[q1] at hj;cases hj)]
     exact hj
    ·exact St.sR (St.sR (St.sR (St.none_le _)))
   exact hfin rfl
end Go.Proofs.YtppdgejjmhdjhaaGreatDoor
