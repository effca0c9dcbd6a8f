/- Parts of the proof; conditions: as its theorems name them. -/
import Derived.Test.YtppdgejjmhdjhaaGreatDoorMar
set_option linter.unusedVariables false
set_option linter.unusedSimpArgs false
set_option maxHeartbeats 8000000
set_option maxRecDepth 100000
namespace Go.Proofs.YtppdgejjmhdjhaaGreatDoor
section
def l5(f:F8)(L:List Nat):F8:=L.foldl (fun g i=>g.set i (f.get i)) f80
theorem AL(f:F8)(m:Nat):∀k,kX f m k=l5 f ((List.range k).filter fun i=>bit m i)
 | 0=>rfl
 | k+1=>by
  rw[kX,AL f m k,List.range_succ,List.filter_append,l5,l5,List.foldl_append]
  by_cases h:bit m k=true
  ·rw[if_pos h];simp[h]
  ·rw[if_neg h];simp[h]
theorem Kf(f:F8)(m:Nat):UN f m=l5 f (bV m):=AL f m 8
theorem Kd(c:CA)(m:UInt32):aA Tryz.prog 78 [.agg c.c,.int .u32 (m.toNat:Int)] St.none (fun r _=>r=.agg (eB c m).c):=by
 refine aA.bS (mB 34 [.cell 4 126] Tryz.func78 ?_)
 have hml:=sL m
 have hfl:=uC m
 have hbl:=vC m.toNat
 obtain⟨ml,hm8⟩:∃b,bit m.toNat 8=b:=⟨_,rfl⟩
 rw[hm8] at hml
 have hlab:(eB c m).c=.int .i64 c.id::.int .i64 c.ver::.int .u32 (((if ml=true then c.lab else 0:UInt32).toNat:Nat):Int)::fc (l5 c.f (bV m.toNat)):=by rw[←hm8,←Kf];rfl
 rw[hlab]
 clear hm8 hlab
 obtain⟨lb,hlb⟩:∃lb:UInt32,(if ml=true then c.lab else 0)=lb:=⟨_,rfl⟩
 rw[hlb]
 have hlt:∀i,i∈bV m.toNat→i<8:=fun i=>tA
 obtain⟨L,hL⟩:∃L,bV m.toNat=L:=⟨_,rfl⟩
 rw[hL] at hfl hbl hlt ⊢
 have hll:(dX L).length=L.length:=List.length_map _
 cases ml
 all_goals simp only[Bool.false_eq_true,if_false,if_true] at hlb
 ·subst hlb
  repeat' first|(with_reducible first|refine up hml ?_|refine up hfl ?_)|(refine wM ?_;(first|(have _:=nl3)|(have _:=nl2;intro nl3)|(have _:=nl1;intro nl2)|(intro nl1));intros)|refine wZ3 @Tryz.f78.eq_1 @FXs @hll ?_|fail
  refine aF (α:=Nat) (fun i=>⟨34,[(21,.int .i64 (i:Int)),(20,.int .i64 (L.length:Int)),(19,.lst 1 (dX L) false),(5,.ptr nl3 0 0),(4,.ptr nl2 0 0),(2,.ptr nl1 0 0)],[]⟩)
   (fun i=>((St.none.set nl1 (.row 126 27 [c.c])).set nl2 (.row 126 27 [ca0.c])).set nl3 (.row 126 27 [.int .i64 c.id::.int .i64 c.ver::.int .u32 ((0:UInt32).toNat:Int)::fc (l5 c.f (L.take i))])) (fun i=>i≤L.length) (fun i=>L.length - i) (.of (.less ?_ (St.le_refl _)) ⟨0,rfl,rfl,Nat.zero_le _⟩) ?_
  ·exact wW
  ·intro i hi
   have hi:i≤L.length:=hi
   by_cases hlt':i<L.length
   ·obtain⟨k,hk⟩:=bU L hlt'
    have hat:(dX L).getD i []=[.int .i64 (k:Int)]:=by rw[List.getD_eq_getElem?_getD,List.getElem?_map,hk];rfl
    have hk8:=hlt k (dY hk)
    have hsucc:l5 c.f (L.take (i+1))=(l5 c.f (L.take i)).set k (c.f.get k):=by rw[aZ hk,l5,List.foldl_append];rfl
    obtain⟨g,hg⟩:∃g,l5 c.f (L.take i)=g:=⟨_,rfl⟩
    rw[hg] at hsucc ⊢
    repeat' first|refine wZ3 @FXs @hat @hll ?_|fail
    all_goals (try (exfalso;omega))
    all_goals
     refine .of (.less ?_ (St.le_refl _)) ⟨i+1,rfl,by rw[hsucc];first|rfl|skip,(by omega:i+1≤L.length),by omega⟩
     exact wW
   ·have:i=L.length:=by omega
    subst this
    rw[List.take_length]
    repeat' first|refine wZ1 @FXs ?_|fail
    all_goals exact lE
 ·subst hlb
  repeat' first|(with_reducible first|refine up hml ?_|refine up hfl ?_)|(refine wM ?_;(first|(have _:=nl3)|(have _:=nl2;intro nl3)|(have _:=nl1;intro nl2)|(intro nl1));intros)|refine wZ3 @Tryz.f78.eq_1 @FXs @hll ?_|fail
  refine aF (α:=Nat) (fun i=>⟨34,[(21,.int .i64 (i:Int)),(20,.int .i64 (L.length:Int)),(19,.lst 1 (dX L) false),(5,.ptr nl3 0 0),(4,.ptr nl2 0 0),(2,.ptr nl1 0 0)],[]⟩)
   (fun i=>((St.none.set nl1 (.row 126 27 [c.c])).set nl2 (.row 126 27 [ca0.c])).set nl3 (.row 126 27 [.int .i64 c.id::.int .i64 c.ver::.int .u32 (c.lab.toNat:Int)::fc (l5 c.f (L.take i))])) (fun i=>i≤L.length) (fun i=>L.length - i) (.of (.less ?_ (St.le_refl _)) ⟨0,rfl,rfl,Nat.zero_le _⟩) ?_
  ·exact wW
  ·intro i hi
   have hi:i≤L.length:=hi
   by_cases hlt':i<L.length
   ·obtain⟨k,hk⟩:=bU L hlt'
    have hat:(dX L).getD i []=[.int .i64 (k:Int)]:=by rw[List.getD_eq_getElem?_getD,List.getElem?_map,hk];rfl
    have hk8:=hlt k (dY hk)
    have hsucc:l5 c.f (L.take (i+1))=(l5 c.f (L.take i)).set k (c.f.get k):=by rw[aZ hk,l5,List.foldl_append];rfl
    obtain⟨g,hg⟩:∃g,l5 c.f (L.take i)=g:=⟨_,rfl⟩
    rw[hg] at hsucc ⊢
    repeat' first|refine wZ3 @FXs @hat @hll ?_|fail
    all_goals (try (exfalso;omega))
    all_goals
     refine .of (.less ?_ (St.le_refl _)) ⟨i+1,rfl,by rw[hsucc];first|rfl|skip,(by omega:i+1≤L.length),by omega⟩
     exact wW
   ·have:i=L.length:=by omega
    subst this
    rw[List.take_length]
    repeat' first|refine wZ1 @FXs ?_|fail
    all_goals exact lE
end

section
structure XN (l:List TU) (es:List (MV × MV)):Prop where
 k:(es.all fun p=>isK .i64 p.1)=true
 o:L0 es
 g:∀id,dQ id es=(fS l id).map fun n=>.int .i64 n
 n:es.length≤l.length
end

section
def Bm(a b:Int):Int:=if a<b then -1 else if b<a then 1 else 0
theorem JR(a b:Int):aA Tryz.prog 268 [.int .i64 a,.int .i64 b] St.none (fun r _=>r=.int .i64 (Bm a b)):=by
 refine(mB 20 [.tmp 4] Tryz.func268 ?_)
 have h1:=mR a
 have h2:=mR b
 rcases Int.lt_trichotomy a b with h|h|h
 ·rw[show Bm a b = -1 from if_pos h]
  repeat' first|(with_reducible first|refine up h1 ?_|refine up h2 ?_)|refine wZ1 @Tryz.f268.eq_1 ?_|exact wC1 @Tryz.f268.eq_1|fail
  all_goals (try (exfalso;omega))
 ·rw[show Bm a b=0 from(if_neg oM).trans (if_neg oM)]
  repeat' first|(with_reducible first|refine up h1 ?_|refine up h2 ?_)|refine wZ1 @Tryz.f268.eq_1 ?_|exact wC1 @Tryz.f268.eq_1|fail
  all_goals (try (exfalso;omega))
 ·rw[show Bm a b=1 from(if_neg oM).trans (if_pos h)]
  repeat' first|(with_reducible first|refine up h1 ?_|refine up h2 ?_)|refine wZ1 @Tryz.f268.eq_1 ?_|exact wC1 @Tryz.f268.eq_1|fail
  all_goals (try (exfalso;omega))
theorem xP(x:GR)(g:Int):aA Tryz.prog 267 [.agg x.c,.int .i64 g] St.none (fun r _=>r=.int .i64 (Bm x.no g)):=by
 refine aA.bS (mB 9 [.tmp 4] Tryz.func267 ?_)
 have h:=JR x.no g
 repeat' first|(with_reducible first|refine up h ?_)|(refine wO ?_;intros)|refine wZ1 @Tryz.f267.eq_1 ?_|fail
 all_goals exact lE
theorem T1(l:List GR){m:Nat}{x:GR}(h:l[m]?=some x):(l.map GR.no).getD m 0=x.no:=by
 rw[List.getD_eq_getElem?_getD,List.getElem?_map,h];rfl
theorem Od(l:List GR)(hl:l.length≤1000000)(hu:UpI (l.map GR.no))(g:Int)(t:Bool):aA Tryz.prog 266 [.lst 2 (l.map GR.c) t,.int .i64 g,.fn (.func 267) [] []] St.none (fun r _=>r=.tup [.int .i64 (aR (l.map GR.no) g:Int),.bool (decide (g∈l.map GR.no))]):=by
 refine(mB 49 [.tmp 6,.tmp 7] Tryz.func266 ?_)
 have hnl:(l.map GR.no).length=l.length:=List.length_map _
 obtain⟨N,hN⟩:∃N,l.map GR.no=N:=⟨_,rfl⟩
 rw[hN] at hnl hu ⊢
 have hgd:∀{m:Nat} {x:GR},l[m]?=some x→N.getD m 0=x.no:=fun h=>hN ▸ T1 l h
 repeat' first|refine wZ1 @Tryz.f266.eq_1 ?_|fail
 refine aF (α:=Nat × Nat) (fun a=>⟨49,[(9,.int .i64 (a.1:Int)),(10,.int .i64 (a.2:Int)),(8,.int .i64 (l.length:Int)),(2,.fn (.func 267) [] []),(1,.int .i64 g),(0,.lst 2 (l.map GR.c) t)],[]⟩)
  (fun _=>St.none) (fun a=>a.1≤a.2∧a.2≤l.length∧(∀q,q<a.1→N.getD q 0<g)∧(∀q,a.2≤q→q<N.length→¬N.getD q 0<g)) (fun a=>a.2 - a.1) (.of (.less ?_ (St.le_refl _)) ⟨(0,l.length),rfl,rfl,by simp;omega⟩) ?_
 ·simp(maxSteps:=4000000) (disch:=first|exact ddL|fail) only[go_sem,simprocAttr,aU,aN]
  all_goals first|rfl|omega|simp
 ·rintro⟨i,j⟩ ⟨h1,h2,h3,h4⟩
  simp only at h1 h2 h3 h4 ⊢
  by_cases hij:i<j
  ·have hh:=half i j
   have hm1:i≤(i+j) / 2:=by omega
   have hm2:(i+j) / 2<j:=by omega
   obtain⟨m,hm⟩:∃m,(i+j) / 2=m:=⟨_,rfl⟩
   rw[hm] at hh hm1 hm2
   have hml:m<l.length:=by omega
   obtain⟨x,hx⟩:=bU l hml
   have hat:=bN (f:=GR.c) hx
   have hno:=hgd hx
   have hup:∀a b,a<b→b<N.length→N.getD a 0<N.getD b 0:=fun a b hab hb=>by
    have:=List.pairwise_iff_getElem.1 hu a b oM hb hab
    rw[List.getD_eq_getElem?_getD,List.getD_eq_getElem?_getD,List.getElem?_eq_getElem (by omega:a<N.length),List.getElem?_eq_getElem hb]
    exact this
   have hord:=xP x g
   obtain⟨k,hk⟩:∃k,Bm x.no g=k:=⟨_,rfl⟩
   rw[hk] at hord
   by_cases hless:x.no<g
   ·have hnew:∀q,q<m+1→N.getD q 0<g:=fun q hq=>by
     rcases Nat.lt_or_ge q m with hlt|hge
     ·have:=hup q m hlt oM;omega
     ·have:q=m:=by omega
      rw[this,hno];exact hless
    have hkn:k<0:=by rw[←hk,show Bm x.no g = -1 from if_pos hless];omega
    clear hk hless
    repeat' first|(with_reducible first|refine up hord ?_)|refine wZ2 @hat @hh ?_|fail
    all_goals (try (exfalso;omega))
    refine .of (.less (l1:=[(9,.int .i64 ((m+1:Nat):Int)),(10,.int .i64 (j:Int)),(8,.int .i64 (l.length:Int)),(2,.fn (.func 267) [] []),(1,.int .i64 g),(0,.lst 2 (l.map GR.c) t)]) ?_ (St.le_refl _)) ⟨(m+1,j),rfl,rfl,⟨by simp only;omega,h2,hnew,h4⟩,by simp only;omega⟩
    simp(maxSteps:=4000000) (disch:=first|exact ddL|fail) only[go_sem,simprocAttr,aU,aN]
    all_goals first|rfl|omega|(simp;done)
   ·have hnew:∀q,m≤q→q<N.length→¬N.getD q 0<g:=fun q hq hql=>by
     rcases Nat.lt_or_ge m q with hlt|hge
     ·have:=hup m q hlt hql;omega
     ·have:q=m:=by omega
      rw[this,hno];exact hless
    have hkn:¬k<0:=by
     rw[←hk];unfold Bm;rw[if_neg hless];split<;>omega
    clear hk hless
    repeat' first|(with_reducible first|refine up hord ?_)|refine wZ2 @hat @hh ?_|fail
    all_goals (try (exfalso;omega))
    refine .of (.less (l1:=[(9,.int .i64 (i:Int)),(10,.int .i64 (m:Int)),(8,.int .i64 (l.length:Int)),(2,.fn (.func 267) [] []),(1,.int .i64 g),(0,.lst 2 (l.map GR.c) t)]) ?_ (St.le_refl _)) ⟨(i,m),rfl,rfl,⟨hm1,by simp only;omega,h3,hnew⟩,by simp only;omega⟩
    simp(maxSteps:=4000000) (disch:=first|exact ddL|fail) only[go_sem,simprocAttr,aU,aN]
    all_goals first|rfl|omega|(simp;done)
  ·have:i=j:=by omega
   subst this
   have hp:=Co hu h3 h4
   rw[E9 oM h3 h4]
   by_cases hil:i<l.length
   ·obtain⟨x,hx⟩:=bU l hil
    have hat:=bN (f:=GR.c) hx
    have hno:=hgd hx
    have hord:=xP x g
    have hge:=h4 i (Nat.le_refl _) oM
    rw[hno] at hge
    rw[hno] at hp
    by_cases he:x.no=g
    ·rw[decide_eq_true (hp.2 ⟨by omega,he⟩)]
     rw[show Bm x.no g=0 from(if_neg oM).trans (if_neg oM)] at hord
     repeat' first|(with_reducible first|refine up hord ?_)|refine wZ1 @hat ?_|exact wC1 @hat|fail
     all_goals (try (exfalso;omega))
     all_goals (first|rfl|(simp;omega))
    ·rw[decide_eq_false fun h=>he (hp.1 h).2]
     rw[show Bm x.no g=1 from(if_neg oM).trans (if_pos oM)] at hord
     repeat' first|(with_reducible first|refine up hord ?_)|refine wZ1 @hat ?_|exact wC1 @hat|fail
     all_goals (try (exfalso;omega))
     all_goals (first|rfl|(simp;omega))
   ·rw[decide_eq_false fun h=>hil (by have:=(hp.1 h).1;omega)]
    repeat' first|refine wZ0 ?_|exact wC0|fail
    all_goals (try (exfalso;omega))
    all_goals (first|rfl|(simp;omega))
theorem gH(l:List GR)(hl:l.length≤1000000)(hu:UpI (l.map GR.no))(g:Int)(t:Bool):aA Tryz.prog 217 [.lst 2 (l.map GR.c) t,.int .i64 g] St.none (fun r _=>r=.tup [.int .i64 (aR (l.map GR.no) g:Int),.bool (decide (g∈l.map GR.no))]):=by
 refine(mB 11 [.tmp 4,.tmp 5] Tryz.func217 ?_)
 have h:=Od l hl hu g t
 repeat' first|(with_reducible first|refine up h ?_)|refine wZ1 @Tryz.f217.eq_1 ?_|exact wC1 @Tryz.f217.eq_1|fail
end

section
open Go.Shelf Go.RowKit Go.Lib
theorem Ix(a:Addr)(c:Nat)(w:World):Calls Tryz.prog 215 #[.slice (some a) 0 c] w fun e w'=>e=.returned (.slice (some ⟨w.heap.size,0,none⟩) 0 0)∧w'=w.alloc (.cells #[] 200):=by
 have q22:∀(w:World) (a:Option Addr) (n c n' c':Nat),(binOp .eql 39 (.slice a n c) (.slice none n' c')).run Tryz.prog w=.ok (.bool a.isNone) w:=fun w a n c n' c'=>Lib.run_eql_slice_nil w _ _ a n c n' c' Tryz.underlying39
 have u22:∀w,Sem.run Tryz.prog (underlying 39) w=.ok (TypeDesc.slice 200) w:=run_underlying Tryz.underlying39
 go_enter Tryz.func215,Tryz.ntmps215
 go_wp2
 go_ret
 exact⟨rfl,rfl⟩
theorem Fh:aA Tryz.prog 215 [.aM] St.none (fun r _=>r=.aM):=by
 refine(mB 8 [.tmp 2] Tryz.func215 ?_)
 repeat' first|refine wZ1 @Tryz.f215.eq_1 ?_|exact wC1 @Tryz.f215.eq_1|fail
theorem tD(e:Nat)(t tr:Bool):aA Tryz.prog 215 [.lst e [] t] St.none (fun r _=>r=.lst e [] tr):=kG Fh Ix
theorem rM(e:Nat)(t tr:Bool):aA Tryz.prog 114 [.lst e [] t] St.none (fun r _=>r=.lst e [] tr):=kG xH zM
theorem zL(x:GR)(l:List GR)(hl:l.length+1≤1000000)(t:Bool):aA Tryz.prog 215 [.lst 2 ((x::l).map GR.c) t] St.none (fun r σ'=>∃q,r=.vec 2 q 0 (l.length+1)∧σ'=St.none.set q (.row 200 2 ((x::l).map GR.c))):=by
 refine(mB 8 [.tmp 2] Tryz.func215 ?_)
 repeat' first|(refine wO ?_;intros)|refine wZ1 @Tryz.f215.eq_1 ?_|fail
 all_goals exact⟨_,rfl,rfl⟩
theorem BJ(t tr:Bool):aA Tryz.prog 219 [.lst 2 [] t] St.none (fun r _=>r=.lst 2 [] tr):=by
 refine(mB 24 [.tmp 2] Tryz.func219 ?_)
 have h:=tD 2 t tr
 repeat' first|(refine aC h ?_)|refine wZ1 @Tryz.f219.eq_1 ?_|fail
 refine aF (α:=Unit) (fun _=>⟨24,[(9,.int .i64 0),(8,.int .i64 0),(3,.lst 2 [] tr)],[]⟩) (fun _=>St.none) (fun _=>True) (fun _=>0) (.of (.less ?_ (St.le_refl _)) ⟨(),rfl,rfl,trivial⟩) ?_
 ·exact wW
 ·intro _ _
  repeat' first|refine wZ0 ?_|exact wC0|fail
theorem oK(x:GR)(l:List GR)(hl:l.length+1≤1000000)(hm:∀g,g∈x::l→g.mem.length≤1000000)(t:Bool):aA Tryz.prog 219 [.lst 2 ((x::l).map GR.c) t] St.none (fun r σ'=>∃q,r=.vec 2 q 0 (l.length+1)∧σ'=St.none.set q (.row 200 2 ((x::l).map GR.c))):=by
 refine(mB 24 [.tmp 2] Tryz.func219 ?_)
 have h:=zL x l hl t
 obtain⟨L,hL⟩:∃L,x::l=L:=⟨_,rfl⟩
 have hLl:L.length=l.length+1:=by rw[←hL];rfl
 obtain⟨n,hn⟩:∃n,l.length+1=n:=⟨_,rfl⟩
 rw[hL] at h hm ⊢
 rw[hn] at h hLl hl ⊢
 have hml:(L.map GR.c).length=n:=by rw[List.length_map,hLl]
 repeat' first|((refine gZ h ?_;intro q hq))|refine wZ1 @Tryz.f219.eq_1 ?_|fail
 refine aF (α:=Nat) (fun i=>⟨24,[(9,.int .i64 (i:Int)),(8,.int .i64 (n:Int)),(3,.vec 2 q 0 n)],[]⟩) (fun i=>St.none.set q (.row 200 2 (L.map GR.c))) (fun i=>i≤n) (fun i=>n - i) (.of (.less ?_ (St.le_refl _)) ⟨0,rfl,rfl,Nat.zero_le _⟩) ?_
 ·exact wW
 ·intro i hi
  have hi:i≤n:=hi
  by_cases hlt:i<n
  ·obtain⟨y,hy⟩:=bU L (show i<L.length by omega)
   have hat:=bN (f:=GR.c) hy
   have hcl:=pC y.mem (hm y (dY hy)) false
   have hset:(L.map GR.c).set i y.c=L.map GR.c:=by
    have h0:=List.getElem?_eq_some_iff.1 hy
    obtain⟨h1,h2⟩:=h0
    refine List.ext_getElem (by simp) fun j h3 h4=>?_
    rw[List.getElem_set]
    split
    ·rename_i e;subst e;simp[h2]
    ·rfl
   repeat' first|(with_reducible first|refine up hcl ?_)|refine wZ3 @hat @hml @hset ?_|fail
   all_goals (try (exfalso;omega))
   all_goals
    refine .of (.less ?_ (St.le_refl _)) ⟨i+1,rfl,rfl,(by omega:i+1≤n),by omega⟩
    exact wW
  ·have:i=n:=by omega
   subst this
   repeat' first|refine wZ0 ?_|fail
   all_goals (try (exfalso;omega))
   all_goals exact⟨_,rfl,rfl⟩
theorem J3{v:Nat}(y:List MV)(hy:∃g,y=[.int .i64 g,.aM]):aA Tryz.prog 218 [.lst 2 [] true,.int .i64 0,.vec 2 v 0 1] (St.none.set v (.row 200 2 [y])) (fun r σ'=>∃q,r=.vec 2 q 0 1∧σ'=St.none.set q (.row 200 2 [y])):=by
 obtain⟨g,rfl⟩:=hy
 refine aA.bS (mB 95 [.tmp 6] Tryz.func218 ?_)
 repeat' first|(refine wO ?_;intros)|refine wZ1 @Tryz.f218.eq_1 ?_|fail
 exact⟨_,St.aB (St.none_le _) (aD _ _ _),_,rfl,rfl⟩
theorem J4{v:Nat}(x:Int):aA Tryz.prog 272 [.lst 1 [] true,.int .i64 0,.vec 1 v 0 1] (St.none.set v (.row 3 1 [aP x])) (fun r σ'=>r=.lst 1 [aP x] false∧σ'=St.none):=by
 refine aA.C0 (mB 95 [.tmp 6] Tryz.func272 ?_)
 repeat' first|(refine wO ?_;intros)|refine wZ1 @Tryz.f272.eq_1 ?_|fail
 exact⟨_,St.aB (St.none_le _) (aD _ _ _),St.none_le _,fun k o hk=>hk.elim,View.vecAll (aD _ _ _) rfl⟩
end
end Go.Proofs.YtppdgejjmhdjhaaGreatDoor
