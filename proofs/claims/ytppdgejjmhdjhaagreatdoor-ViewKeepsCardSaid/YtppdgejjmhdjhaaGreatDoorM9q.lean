/- Parts of the proof; conditions: as its theorems name them. -/
import Derived.Test.YtppdgejjmhdjhaaGreatDoorM9n
import Derived.Test.YtppdgejjmhdjhaaGreatDoorM9p
set_option linter.unusedVariables false
set_option linter.unusedSimpArgs false
set_option maxHeartbeats 8000000
set_option maxRecDepth 100000
namespace Go.Proofs.YtppdgejjmhdjhaaGreatDoor
section
def SuF(l:List SU):Prop:=∀x,x∈l→x.fl.length≤1000000∧x.mem.length≤1000000∧x.log.length≤1000000
end

section
structure SaF (s:SA):Prop where
 nc:s.bk.cards.length≤1000000
 nd:s.bk.dead.length≤1000000
 ng:s.bk.gr.length≤1000000
 nm:∀g,g∈s.bk.gr→g.mem.length≤1000000
 ns:s.subs.length≤1000000
 sf:SuF s.subs
 nr:s.rows.length≤1000000
 nf:∀r,r∈s.rows→r.ans.fl.length≤1000000
end

section
theorem sR(l:List ND)(hl:l.length≤1000000)(tt:Bool)(h:bS l=0):aA Tryz.prog 62 [.lst 5 (l.map ND.c) tt] St.none (fun v σ'=>∃q,v=.ptr q 0 0∧σ'=St.none.set q (flO (.lst 5 (l.map ND.c) false) 0 0 .nilfn)):=by
 refine(mB 10 [.tmp 2] Tryz.func62 ?_)
 have c1:=uK l hl tt
 have c2:=EX l hl tt
 rw[h] at c1
 repeat' first|(with_reducible first|refine up c1 ?_|refine up c2 ?_)|(refine wO ?_;intros)|refine wZ1 @Tryz.f62.eq_1 ?_|fail
 all_goals exact⟨_,rfl,rfl⟩
theorem CN(l:List ND)(hl:l.length≤1000000)(tt:Bool)(h:bS l≠0):aA Tryz.prog 62 [.lst 5 (l.map ND.c) tt] St.none (fun v _=>v=.nilp):=by
 refine(mB 10 [.tmp 2] Tryz.func62 ?_)
 have c1:=uK l hl tt
 obtain⟨e,he⟩:∃z,bS l=z:=⟨_,rfl⟩
 rw[he] at c1 h
 repeat' first|(with_reducible first|refine up c1 ?_)|refine wZ1 @Tryz.f62.eq_1 ?_|exact wC1 @Tryz.f62.eq_1|fail
theorem HJ(d:DE)(id:Int):aA Tryz.prog 222 [.agg d.c,.cptr [.int .i64 id]] St.none (fun r _=>r=.bool (decide (d.id=id))):=by
 refine aA.bR (mB 8 [.tmp 3] Tryz.func222 ?_)
 repeat' first|(refine wO ?_;intros)|refine wZ1 @Tryz.f222.eq_1 ?_|fail
 all_goals exact lE
theorem Fq(l:List DE)(hl:l.length≤1000000)(t:Bool)(id:Int) :
  aA Tryz.prog 271 [.lst 3 (l.map DE.c) t,.fn (.func 222) [] [.cptr [.int .i64 id]]] St.none (fun r _=>r=.int .i64 (p9 (l.map DE.id) id)):=by
 refine aA.bR (mB 19 [.tmp 4] Tryz.func271 ?_)
 repeat' first|refine wZ1 @Tryz.f271.eq_1 ?_|fail
 refine aE (α:=Nat) (fun k=>⟨19,[(8,.int .i64 (k:Int)),(7,.int .i64 (l.length:Int)),(6,.lst 3 (l.map DE.c) t),(0,.lst 3 (l.map DE.c) t),(1,.fn (.func 222) [] [.cptr [.int .i64 id]])],[]⟩) (fun _=>St.none)
  (fun k=>k≤l.length∧id∉(l.take k).map DE.id) (fun k=>l.length - k) (.of (.less ?_ (St.le_refl _)) ⟨0,rfl,rfl,Nat.zero_le _,by simp⟩) ?_
 ·exact wW
 ·rintro k ⟨h1,h2⟩
  by_cases hk:k<l.length
  ·obtain⟨d,hd⟩:=bW l hk
   have hat:=bF (f:=DE.c) hd
   have hc:=HJ d id
   by_cases he:d.id=id
   ·rw[decide_eq_true he] at hc
    have hi':=U8 (P1 (f:=DE.id) hd) (by rw[he,←List.map_take];exact h2)
    have hm:=eD (P1 (f:=DE.id) hd)
    rw[he] at hi' hm
    have hp:p9 (l.map DE.id) id=k:=by unfold p9;rw[if_pos hm,hi']
    rw[hp]
    repeat' first|(with_reducible first|refine up hc ?_)|refine wZ1 @hat ?_|fail
    all_goals exact lE
   ·rw[decide_eq_false he] at hc
    repeat' first|(with_reducible first|refine up hc ?_)|refine wZ1 @hat ?_|fail
    refine .of (.less ?_ (St.le_refl _)) ⟨k+1,rfl,rfl,⟨by omega,?_⟩,by omega⟩
    ·exact wW
    ·rw[aP hd,List.map_append,List.mem_append]
     simpa using⟨by simpa using h2,Ne.symm he⟩
  ·have:k=l.length:=by omega
   subst this
   rw[List.take_length] at h2
   have hp:p9 (l.map DE.id) id = -1:=by unfold p9;rw[if_neg h2]
   rw[hp]
   repeat' first|refine wZ0 ?_|fail
   all_goals exact lE
theorem zK(l:List DE)(hl:l.length≤1000000)(t:Bool)(id:Int) :
  aA Tryz.prog 221 [.lst 3 (l.map DE.c) t,.fn (.func 222) [] [.cptr [.int .i64 id]]] St.none (fun r _=>r=.bool (decide (id∈l.map DE.id))):=by
 refine aA.bR (mB 9 [.tmp 4] Tryz.func221 ?_)
 have hi:=Fq l hl t id
 have hn:=JY (l:=l.map DE.id) (x:=id)
 obtain⟨k,hk⟩:∃k,p9 (l.map DE.id) id=k:=⟨_,rfl⟩
 rw[hk] at hi hn
 have e:decide (id∈l.map DE.id)=decide (0≤k):=decide_eq_decide.mpr ⟨fun h=>by
  have:¬k<0:=fun h'=>(hn ▸ h') h
  omega,fun h=>Classical.not_not.1 fun h'=>by
  have:k<0:=hn ▸ h'
  omega⟩
 rw[e]
 repeat' first|(with_reducible first|refine up hi ?_)|refine wZ1 @Tryz.f221.eq_1 ?_|fail
 all_goals first|exact⟨_,St.le_refl _,rfl⟩|exact⟨_,St.le_refl _⟩|(refine⟨_,St.le_refl _,?_⟩;simp[*])
end

section
def bD(cs:List CA)(ds:List DE)(id:Int):CA × Int :=
 match cs.find? (fun c=>decide (c.id=id)) with
 | some c=>(c,0)
 | none=>(ca0,if id∈ds.map DE.id then 9 else 6)
theorem Cj{id:Int}:∀cs:List CA,dT id (cEs cs)=(cs.find? fun c=>decide (c.id=id)).map fun c=>.agg c.c
 | []=>rfl
 | c::cs=>by
  have ih:=Cj (id:=id) cs
  simp only[cEs,List.map_cons,dT,List.find?_cons] at ih ⊢
  by_cases h:c.id=id
  ·simp[h]
  ·simp[h,ih]
abbrev shS(nx:Int)(m l q:Nat)(cs:List CA)(ds:List DE)(ex:List (List MV)):St:=((St.none.set m (.mp (cEs cs))).set l (shO nx m (.vec 3 q 0 ds.length))).set q (.row 197 3 (ds.map DE.c++ex))
theorem iK(nx:Int){m l q:Nat}(hlm:l≠m)(hqm:q≠m)(hql:q≠l)(cs:List CA)(ds:List DE)(hd:ds.length≤1000000)(ex:List (List MV))(id:Int) :
  aA Tryz.prog 151 [.ptr l 0 0,.int .i64 id] (shS nx m l q cs ds ex) (fun v σ'=>v=.tup [.agg (bD cs ds id).1.c,.int .i64 (bD cs ds id).2]∧σ'=shS nx m l q cs ds ex):=by
 refine aA.less (Q':=fun v σ'=>v=.tup [.agg (bD cs ds id).1.c,.int .i64 (bD cs ds id).2]∧(shS nx m l q cs ds ex).le σ') (mB 30 [.cell 4 126,.tmp 5] Tryz.func151 ?_) fun v σ' h=>⟨_,h.2,h.1,rfl⟩
 have hall:=qW cs
 have hg:=Cj (id:=id) cs
 have hml:=Ne.symm hlm
 have hmq:=Ne.symm hqm
 have hlq:=Ne.symm hql
 have hc:=zK ds hd false id
 have hle:∀{σ:St},σ m=some (.mp (cEs cs))→σ l=some (shO nx m (.vec 3 q 0 ds.length))→σ q=some (.row 197 3 (ds.map DE.c++ex))→(shS nx m l q cs ds ex).le σ:=fun h1 h2 h3=>St.aB (St.aB (St.aB (St.none_le _) h1) h2) h3
 unfold bD
 show R (dR Tryz.prog _ _ (((St.none.set m (.mp (cEs cs))).set l (shO nx m (.vec 3 q 0 ds.length))).set q (.row 197 3 (ds.map DE.c++ex))) _)
 cases hf:cs.find? (fun c=>decide (c.id=id)) with
 | some c =>
  rw[hf,Option.map_some] at hg
  simp only
  repeat' first|(refine wM ?_;(first|(have _:=nl1)|(intro nl1));intros)|refine wV ?_|refine wZ8 @Tryz.f151.eq_1 @Option.getD_some.{0} @Option.getD_none.{0} @Option.isSome_some.{0} @Option.isSome_none.{0} @FYs @hg @hall ?_|fail
  all_goals first|exact hle sS sS sS|exact⟨rfl,hle sS sS sS⟩
 | none =>
  rw[hf,Option.map_none] at hg
  simp only
  have hv:∀{σ:St} {b:Nat},σ b=some (.row 3 1 [[.int .i64 id]])→σ q=some (.row 197 3 (ds.map DE.c++ex))→∀(i:Nat) (x x':MV),[MV.vec 3 q 0 ds.length,.fn (.func 222) [] [.ptr b 0 0]][i]?=some x→[MV.lst 3 (ds.map DE.c) false,.fn (.func 222) [] [.cptr [.int .i64 id]]][i]?=some x'→View σ x x':=fun h1 h2 =>
   lJ (cX h2 (by simp)) (.fn rfl (rG (View.ptr (i:=0) (o:=0) h1 (by simp))))
  by_cases hm:id∈ds.map DE.id
  ·rw[decide_eq_true hm] at hc
   rw[if_pos hm]
   repeat' first|(refine nQ [.lst 3 (ds.map DE.c) false,.fn (.func 222) [] [.cptr [.int .i64 id]]] hc (by constructor) rfl (hv (b:=nl1) sS sS) ?_)|(refine wM ?_;(first|(have _:=nl1)|(intro nl1));intros)|refine wV ?_|refine wZ8 @Tryz.f151.eq_1 @Option.getD_some.{0} @Option.getD_none.{0} @Option.isSome_some.{0} @Option.isSome_none.{0} @FYs @hg @hall ?_|fail
   all_goals first|exact hle sS sS sS|exact⟨rfl,hle sS sS sS⟩
  ·rw[decide_eq_false hm] at hc
   rw[if_neg hm]
   repeat' first|(refine nQ [.lst 3 (ds.map DE.c) false,.fn (.func 222) [] [.cptr [.int .i64 id]]] hc (by constructor) rfl (hv (b:=nl1) sS sS) ?_)|(refine wM ?_;(first|(have _:=nl1)|(intro nl1));intros)|refine wV ?_|refine wZ8 @Tryz.f151.eq_1 @Option.getD_some.{0} @Option.getD_none.{0} @Option.isSome_some.{0} @Option.isSome_none.{0} @FYs @hg @hall ?_|fail
   all_goals first|exact hle sS sS sS|exact⟨rfl,hle sS sS sS⟩
end

section
theorem Fs{c:CA}:∀{cs:List CA},c.id∉cs.map CA.id→dG .i64 c.id (.agg c.c) (cEs cs)=cEs (cs++[c])
 | [],_=>rfl
 | d::cs,h=>by
  simp only[List.map_cons,List.mem_cons,not_or] at h
  have ih:=Fs h.2
  simp only[cEs,List.map_cons,List.cons_append,dG] at ih ⊢
  rw[if_neg (Ne.symm h.1),ih]
end

section
theorem aV.Cg{n:Nat}{l l1:List (Nat × MV)}{d:List (FuncId × List MV)}{σ σ1:St}(q b:Nat){oq:aW}{t:TypeId}{e:Nat}(pre post:List MV){m m1:MV}(hq:σ q=some oq)(hb:σ b=some (.row t e [pre++m::post]))(hne:b≠q)(hv:View (St.none.set q oq) m m1)(hc:m1.aL=true)
 (h1:σ1 b=some (.row t e [pre++m1::post]))(h0:∀k o,σ1 k=some o→k≠q∧(k=b∨σ k=some o))(hl:∀p,p∈l1→View (St.none.set q oq) (cT l p.1) p.2):aV ⟨n,l,d⟩ σ ⟨n,l1,d⟩ σ1:=by
 refine aV.pO (St.none.set q oq) (St.aB (St.none_le _) hq) (fun k o1 hk=>?_) (fun k o hk=>?_) hl
 ·by_cases e':k=b
  ·subst e'
   rw[h1] at hk
   cases hk
   refine⟨_,hb,.inr ⟨t,e,_,_,rfl,rfl,rfl,fun i x x1 hx hx1=>?_⟩⟩
   match i with
   | 0 =>
    simp only[List.getElem?_cons_zero,Option.some.injEq] at hx hx1
    subst hx hx1
    refine⟨by simp,fun j a b ha hb=>?_⟩
    by_cases hj:j<pre.length
    ·rw[List.getElem?_append_left hj] at ha hb
     rw[ha] at hb;cases hb
     exact .inl rfl
    ·rw[List.getElem?_append_right oM] at ha hb
     match hk:j - pre.length with
     | 0 =>
      rw[hk] at ha hb
      simp only[List.getElem?_cons_zero,Option.some.injEq] at ha hb
      subst ha hb
      exact .inr ⟨hc,hv⟩
     | k+1 =>
      rw[hk] at ha hb
      simp only[List.getElem?_cons_succ] at ha hb
      rw[ha] at hb;cases hb
      exact .inl rfl
   | i+1=>simp at hx
  ·exact⟨_,(h0 k _ hk).2.resolve_left e',.inl rfl⟩
 ·by_cases e':k=b
  ·subst e';exact aF _ _ _ _ hne
  ·exact aF _ _ _ _ (h0 k _ hk).1
abbrev bkS(m l q b:Nat)(B:BK)(ex:List (List MV)):St:=(shS B.nx m l q B.cards B.dead ex).set b (bG B.sq l (.lst 2 (B.gr.map GR.c) false))
structure dQ (m l q b:Nat):Prop where
 lm:l≠m
 qm:q≠m
 ql:q≠l
 bm:b≠m
 bl:b≠l
 bq:b≠q
theorem aU{σ:St}{l k:Nat}{o:aW}:((σ.set l o) k=none)=(k≠l∧σ k=none):=propext ⟨yX,fun h=>(aF _ _ _ _ h.1).trans h.2⟩
end

section
def aQ(l:List Int)(x:Int):Nat:=(l.filter fun y=>decide (y<x)).length
theorem ER{l:List Int}{x:Int}{i:Nat}(hi:i≤l.length)(h1:∀q,q<i→l.getD q 0<x)(h2:∀q,i≤q→q<l.length→¬l.getD q 0<x):aQ l x=i:=by
 unfold aQ
 rw[←List.take_append_drop i l,List.filter_append,List.filter_eq_self.2,List.filter_eq_nil_iff.2,List.append_nil,List.length_take]
 ·omega
 ·intro y hy
  obtain⟨k,hk⟩:=List.mem_iff_getElem?.1 hy
  rw[List.getElem?_drop] at hk
  have:=(List.getElem?_eq_some_iff.1 hk).1
  have h:=h2 (i+k) oM this
  rw[List.getD_eq_getElem?_getD,hk] at h
  simpa using h
 ·intro y hy
  obtain⟨k,hk⟩:=List.mem_iff_getElem?.1 hy
  rw[List.getElem?_take] at hk
  split at hk
  ·rename_i hki
   have h:=h1 k hki
   rw[List.getD_eq_getElem?_getD,hk] at h
   simpa using h
  ·cases hk
theorem Cf{l:List Int}{x:Int}{i:Nat}(hu:UpI l)(h1:∀q,q<i→l.getD q 0<x)(h2:∀q,i≤q→q<l.length→¬l.getD q 0<x):x∈l↔i<l.length∧l.getD i 0=x:=by
 constructor
 ·intro hm
  obtain⟨p,hp,hx⟩:=List.mem_iff_getElem.1 hm
  have e:l.getD p 0=x:=by rw[List.getD_eq_getElem?_getD,List.getElem?_eq_getElem hp,←hx];rfl
  have hip:i≤p:=Nat.le_of_not_lt fun hlt=>by have:=h1 p hlt;omega
  rcases Nat.lt_or_ge i p with hlt|hge
  ·have h3:=List.pairwise_iff_getElem.1 hu i p oM hp hlt
   have h4:=h2 i (Nat.le_refl _) oM
   rw[List.getD_eq_getElem?_getD,List.getElem?_eq_getElem (by omega:i<l.length)] at h4
   simp at h4
   omega
  ·have:i=p:=by omega
   subst this
   exact⟨hp,e⟩
 ·rintro⟨hi,e⟩
  rw[←e,List.getD_eq_getElem?_getD,List.getElem?_eq_getElem hi]
  exact List.getElem_mem hi
theorem IW(a b:Int):aA Tryz.prog 284 [.int .i64 a,.int .i64 b] St.none (fun r _=>r=.bool (decide (a<b))):=by
 refine(mB 17 [.tmp 4] Tryz.func284 ?_)
 have h:=mK a
 repeat' first|(with_reducible first|refine up h ?_)|refine wZ1 @Tryz.f284.eq_1 ?_|exact wC1 @Tryz.f284.eq_1|fail
theorem Ap(a:Int):aA Tryz.prog 298 [.int .i64 a] St.none (fun r _=>r=.bool false):=by
 refine(mB 6 [.tmp 2] Tryz.func298 ?_)
 repeat' first|refine wZ2 @Tryz.f298.eq_1 @gP.{1} ?_|exact wC2 @Tryz.f298.eq_1 @gP.{1}|fail
theorem Ck(l:List Int){m:Nat}(h:m<l.length):(l.map aM).getD m []=aM (l.getD m 0):=by
 obtain⟨x,hx⟩:=bW l h
 rw[bF (f:=aM) hx,List.getD_eq_getElem?_getD,hx];rfl
theorem uG(l:List Int)(hl:l.length≤1000000)(hu:UpI l)(x:Int)(t:Bool):aA Tryz.prog 263 [.lst 1 (l.map aM) t,.int .i64 x] St.none (fun r _=>r=.tup [.int .i64 (aQ l x:Int),.bool (decide (x∈l))]):=by
 refine(mB 54 [.tmp 4,.tmp 5] Tryz.func263 ?_)
 repeat' first|refine wZ1 @Tryz.f263.eq_1 ?_|fail
 refine aE (α:=Nat × Nat) (fun a=>⟨54,[(7,.int .i64 (a.1:Int)),(8,.int .i64 (a.2:Int)),(6,.int .i64 (l.length:Int)),(1,.int .i64 x),(0,.lst 1 (l.map aM) t)],[]⟩)
  (fun _=>St.none) (fun a=>a.1≤a.2∧a.2≤l.length∧(∀q,q<a.1→l.getD q 0<x)∧(∀q,a.2≤q→q<l.length→¬l.getD q 0<x)) (fun a=>a.2 - a.1) (.of (.less ?_ (St.le_refl _)) ⟨(0,l.length),rfl,rfl,by simp;omega⟩) ?_
 ·simp(maxSteps:=4000000) (disch:=first|decide|assumption|omega|(simp only[wL];omega)) only[go_sem,simprocAttr,bC,aS]
  all_goals first|rfl|omega|simp
 ·rintro⟨i,j⟩ ⟨h1,h2,h3,h4⟩
  simp only at h1 h2 h3 h4 ⊢
  by_cases hij:i<j
  ·have hh:=half i j
   have hm1:i≤(i+j) / 2:=by omega
   have hm2:(i+j) / 2<j:=by omega
   obtain⟨m,hm⟩:∃m,(i+j) / 2=m:=⟨_,rfl⟩
   rw[hm] at hh hm1 hm2
   have hml:m<l.length:=by omega
   have hat:=Ck l hml
   have hup:∀a b,a<b→b<l.length→l.getD a 0<l.getD b 0:=fun a b hab hb=>by
    have:=List.pairwise_iff_getElem.1 hu a b oM hb hab
    rw[List.getD_eq_getElem?_getD,List.getD_eq_getElem?_getD,List.getElem?_eq_getElem (by omega:a<l.length),List.getElem?_eq_getElem hb]
    exact this
   have hord:=IW (l.getD m 0) x
   by_cases hless:l.getD m 0<x
   ·have hnew:∀q,q<m+1→l.getD q 0<x:=fun q hq=>by
     rcases Nat.lt_or_ge q m with hlt|hge
     ·have:=hup q m hlt hml;omega
     ·have:q=m:=by omega
      rw[this];exact hless
    obtain⟨y,hy⟩:∃y,l.getD m 0=y:=⟨_,rfl⟩
    rw[hy] at hat hord hless
    repeat' first|(with_reducible first|refine up hord ?_)|refine wZ2 @hat @hh ?_|fail
    all_goals (try (exfalso;omega))
    refine .of (.less (l1:=[(7,.int .i64 ((m+1:Nat):Int)),(8,.int .i64 (j:Int)),(6,.int .i64 (l.length:Int)),(1,.int .i64 x),(0,.lst 1 (l.map aM) t)]) ?_ (St.le_refl _)) ⟨(m+1,j),rfl,rfl,⟨by simp only;omega,h2,hnew,h4⟩,by simp only;omega⟩
    simp(maxSteps:=4000000) (disch:=first|decide|assumption|omega|(simp only[wL];omega)) only[go_sem,simprocAttr,bC,aS]
    all_goals omega
   ·have hnew:∀q,m≤q→q<l.length→¬l.getD q 0<x:=fun q hq hql=>by
     rcases Nat.lt_or_ge m q with hlt|hge
     ·have:=hup m q hlt hql;omega
     ·have:q=m:=by omega
      rw[this];exact hless
    obtain⟨y,hy⟩:∃y,l.getD m 0=y:=⟨_,rfl⟩
    rw[hy] at hat hord hless
    repeat' first|(with_reducible first|refine up hord ?_)|refine wZ2 @hat @hh ?_|fail
    all_goals (try (exfalso;omega))
    refine .of (.less (l1:=[(7,.int .i64 (i:Int)),(8,.int .i64 (m:Int)),(6,.int .i64 (l.length:Int)),(1,.int .i64 x),(0,.lst 1 (l.map aM) t)]) ?_ (St.le_refl _)) ⟨(i,m),rfl,rfl,⟨hm1,by simp only;omega,h3,hnew⟩,by simp only;omega⟩
    simp(maxSteps:=4000000) (disch:=first|decide|assumption|omega|(simp only[wL];omega)) only[go_sem,simprocAttr,bC,aS]
  ·have:i=j:=by omega
   subst this
   have hp:=Cf hu h3 h4
   rw[ER h2 h3 h4]
   by_cases hil:i<l.length
   ·have hat:=Ck l hil
    have hn:=Ap (l.getD i 0)
    have hnx:=Ap x
    by_cases he:l.getD i 0=x
    ·rw[decide_eq_true (hp.2 ⟨hil,he⟩)]
     obtain⟨y,hy⟩:∃y,l.getD i 0=y:=⟨_,rfl⟩
     rw[hy] at hat hn he
     repeat' first|(with_reducible first|refine up hn ?_|refine up hnx ?_)|refine wZ1 @hat ?_|exact wC1 @hat|fail
     all_goals (try (exfalso;omega))
     all_goals (first|rfl|(simp;omega))
    ·rw[decide_eq_false fun h=>he (hp.1 h).2]
     obtain⟨y,hy⟩:∃y,l.getD i 0=y:=⟨_,rfl⟩
     rw[hy] at hat hn he
     repeat' first|(with_reducible first|refine up hn ?_|refine up hnx ?_)|refine wZ1 @hat ?_|exact wC1 @hat|fail
     all_goals (try (exfalso;omega))
     all_goals (first|rfl|(simp;omega))
   ·rw[decide_eq_false fun h=>hil (hp.1 h).1]
    repeat' first|refine wZ0 ?_|exact wC0|fail
    all_goals (try (exfalso;omega))
    all_goals (first|rfl|(simp;omega))
theorem p8(l:List Int)(hl:l.length≤1000000)(hu:UpI l)(x:Int)(t:Bool):aA Tryz.prog 209 [.lst 1 (l.map aM) t,.int .i64 x] St.none (fun r _=>r=.bool (decide (x∈l))):=by
 refine(mB 14 [.tmp 4] Tryz.func209 ?_)
 have h:=uG l hl hu x t
 repeat' first|(with_reducible first|refine up h ?_)|refine wZ1 @Tryz.f209.eq_1 ?_|exact wC1 @Tryz.f209.eq_1|fail
theorem GM(s n:Nat)(hs:s<4294967296)(hn:n<32):aA Tryz.prog 210 [.int .u32 (s:Int),.int .i64 (n:Int)] St.none (fun r _=>r=.int .u32 ((s ||| 2 ^ n:Nat):Int)):=by
 refine(mB 9 [.tmp 4] Tryz.func210 ?_)
 have h:=CK n hn
 have ho:=Xe s (2 ^ n) hs (Nat.pow_lt_pow_right (a:=2) (n:=32) (by decide) hn)
 generalize ((2 ^ n:Nat):Int)=y at h ho
 repeat' first|(with_reducible first|refine up h ?_)|refine wZ2 @Tryz.f210.eq_1 @ho ?_|exact wC2 @Tryz.f210.eq_1 @ho|fail
theorem JT(l:List GR)(tt:Bool)(hl:l.length≤1000000)(hm:∀g,g∈l→g.mem.length≤1000000)(hok:iN (-1) l=true)(id:Int):aA Tryz.prog 139 [.lst 2 (l.map GR.c) tt,.int .i64 id] St.none (fun r _=>r=.int .u32 (grB l id:Int)):=by
 refine aA.bR (mB 24 [.tmp 4] Tryz.func139 ?_)
 repeat' first|refine wZ1 @Tryz.f139.eq_1 ?_|fail
 refine aE (α:=Nat) (fun i=>⟨24,[(10,.int .i64 (i:Int)),(9,.int .i64 (l.length:Int)),(8,.lst 2 (l.map GR.c) tt),(5,.int .u32 (grB (l.take i) id:Int)),(1,.int .i64 id)],[]⟩)
  (fun _=>St.none) (fun i=>i≤l.length) (fun i=>l.length - i) (.of (.less ?_ (St.le_refl _)) ⟨0,rfl,rfl,Nat.zero_le _⟩) ?_
 ·exact wW
 ·intro i hi
  have hi:i≤l.length:=hi
  by_cases hlt:i<l.length
  ·obtain⟨x,hx⟩:=bW l hlt
   have hat:=bF (f:=GR.c) hx
   obtain⟨g1,g2,g3,g4⟩:=IH hok hx id
   have hsn:=zY hx id
   unfold grF at hsn
   obtain⟨n,hn⟩:∃n:Nat,x.no=n:=⟨x.no.toNat,by omega⟩
   have hh:=p8 x.mem (hm x (eD hx)) (EG g4).1 id false
   have g5:grB (l.take i) id<4294967296:=Nat.lt_trans g1 (Nat.pow_lt_pow_right (a:=2) (n:=32) (by decide) oM)
   have hw:=GM (grB (l.take i) id) n g5 oM
   obtain⟨s,hs⟩:∃s,grB (l.take i) id=s:=⟨_,rfl⟩
   rw[hs] at hsn hw ⊢
   rw[hn,Int.toNat_natCast] at hsn
   by_cases hin:id∈x.mem
   ·rw[if_pos hin] at hsn
    rw[decide_eq_true hin] at hh
    repeat' first|(with_reducible first|refine up hh ?_|refine up hw ?_)|(refine wO ?_;intros)|refine wZ2 @hat @hn ?_|fail
    all_goals (try (exfalso;omega))
    all_goals
     refine .of (.less ?_ (St.none_le _)) ⟨i+1,rfl,rfl,(by omega:i+1≤l.length),by omega⟩
     rw[hsn]
     exact wW
   ·rw[if_neg hin] at hsn
    rw[decide_eq_false hin] at hh
    repeat' first|(with_reducible first|refine up hh ?_)|(refine wO ?_;intros)|refine wZ2 @hat @hn ?_|fail
    all_goals (try (exfalso;omega))
    all_goals
     refine .of (.less ?_ (St.none_le _)) ⟨i+1,rfl,rfl,(by omega:i+1≤l.length),by omega⟩
     rw[hsn]
     exact wW
  ·have:i=l.length:=by omega
   subst this
   rw[List.take_length]
   repeat' first|refine wZ0 ?_|fail
   all_goals exact lE
end

section
theorem GL(sq:Int)(l b:Nat)(g:MV):aA Tryz.prog 64 [.ptr b 0 0] (St.none.set b (bG sq l g)) (fun v σ'=>v=.int .i64 sq∧σ'=St.none.set b (bG sq l g)):=by
 refine(mB 9 [.tmp 2] Tryz.func64 ?_)
 repeat' first|refine wZ1 @Tryz.f64.eq_1 ?_|exact wC1 @Tryz.f64.eq_1|fail
 all_goals exact⟨rfl,rfl⟩
theorem p7(sq:Int)(l b:Nat)(gr:List GR)(h3:gr.length≤1000000)(h4:∀g,g∈gr→g.mem.length≤1000000)(hok:iN (-1) gr=true)(id:Int) :
  aA Tryz.prog 67 [.ptr b 0 0,.int .i64 id] (St.none.set b (bG sq l (.lst 2 (gr.map GR.c) false))) (fun v σ'=>v=.int .u32 (grB gr id:Int)∧σ'=St.none.set b (bG sq l (.lst 2 (gr.map GR.c) false))):=by
 refine(mB 13 [.tmp 4] Tryz.func67 ?_)
 have h:=JT gr false h3 h4 hok id
 repeat' first|(with_reducible first|refine up h ?_)|refine wZ1 @Tryz.f67.eq_1 ?_|exact wC1 @Tryz.f67.eq_1|fail
 all_goals exact⟨rfl,rfl⟩
theorem BF(nx sq:Int){l m b:Nat}(dead g:MV)(cs:List CA)(hlm:l≠m)(hbm:b≠m)(hbl:b≠l)(hc:SG cs) :
  aA Tryz.prog 65 [.ptr b 0 0] (((St.none.set m (.mp (cEs cs))).set l (shO nx m dead)).set b (bG sq l g)) (fun v σ'=>v=.lst 27 (cs.map CA.c) false∧σ'=((St.none.set m (.mp (cEs cs))).set l (shO nx m dead)).set b (bG sq l g)):=by
 refine(mB 10 [.tmp 2] Tryz.func65 ?_)
 have h:=Et nx l m dead cs hlm hc
 have hml:=Ne.symm hlm
 have hmb:=Ne.symm hbm
 have hlb:=Ne.symm hbl
 repeat' first|(refine cQ h (le2 sS sS) ?_)|refine wZ1 @Tryz.f65.eq_1 ?_|exact wC1 @Tryz.f65.eq_1|fail
 all_goals exact⟨rfl,rfl⟩
theorem GK{B:BK}(hd:B.dead.length≤1000000){m l q b:Nat}(D:dQ m l q b)(ex:List (List MV))(id:Int) :
  aA Tryz.prog 154 [.ptr b 0 0,.int .i64 id] (bkS m l q b B ex) (fun v σ'=>v=.tup [.agg (bD B.cards B.dead id).1.c,.int .i64 (bD B.cards B.dead id).2]∧σ'=bkS m l q b B ex):=by
 refine aA.less (Q':=fun v σ'=>v=.tup [.agg (bD B.cards B.dead id).1.c,.int .i64 (bD B.cards B.dead id).2]∧(bkS m l q b B ex).le σ') (mB 17 [.cell 4 126,.tmp 5] Tryz.func154 ?_) fun v σ' h=>⟨_,h.2,h.1,rfl⟩
 have h:=iK B.nx D.lm D.qm D.ql B.cards B.dead hd ex id
 obtain⟨d1,d2,d3,d4,d5,d6⟩:=D
 have e1:=Ne.symm d1
 have e2:=Ne.symm d2
 have e3:=Ne.symm d3
 have e4:=Ne.symm d4
 have e5:=Ne.symm d5
 have e6:=Ne.symm d6
 generalize bD B.cards B.dead id=g at h ⊢
 obtain⟨gc,ge⟩:=g
 simp only at h ⊢
 repeat' first|(refine cQ h (St.aB (St.aB (St.aB (St.none_le _) sS) sS) sS) ?_)|(refine wO ?_;intros)|refine wZ2 @Tryz.f154.eq_1 @FXs ?_|fail
 all_goals
  first
  | exact⟨rfl,St.aB (St.aB (St.aB (St.aB (St.none_le _) sS) sS) sS) sS⟩
  | exact St.aB (St.aB (St.aB (St.aB (St.none_le _) sS) sS) sS) sS
noncomputable abbrev flD(fl:List ND)(d:Bool):aW:=flO (.lst 5 (fl.map ND.c) false) (if d=true then 1 else 0) 0 (if d=true then lL (qK fl) else .nilfn)
theorem xN{fl:List ND}(hp:bS fl=0){gr:List GR}(hg:iN (-1) gr=true){c:CA}(hc:iE c=true)(f:Nat)(d:Bool) :
  aA Tryz.prog 66 [.ptr f 0 0,.agg c.c,.int .u32 (grB gr c.id:Int)] (St.none.set f (flD fl d)) (fun v σ'=>v=.bool (dW gr fl c)∧σ'=St.none.set f (flD fl true)):=by
 obtain⟨h1,h2,h3⟩:=y7 hp
 have h:=Dl h1 (by rw[h2];omega) c (fun k=>?_) (grB gr c.id) (Nat.lt_of_lt_of_le (K5 hg c.id) (by decide)) f false d
 ·rw[h2] at h
  exact h
 ·by_cases hk:k<8
  ·exact zG hc _ (by
    unfold F8.get
    exact fR _ (by rw[c.f.h];exact hk))
  ·unfold F8.get
   rw[List.getD_eq_getElem?_getD,List.getElem?_eq_none (by rw[c.f.h];omega)]
   decide
abbrev vwO(f:Nat)(mk:UInt32)(sm:Nat)(floor now:Int)(log:MV):aW:=.row 133 6 [[.ptr f 0 0,.int .u32 (mk.toNat:Int),.mapv sm,.int .i64 floor,.int .i64 now,log]]
theorem Ke{nx:Int}{cs:List CA}(h:jV nx 0 cs=true)(hn:nx≤1073741824)(hl:cs.length≤1000000):SG cs:=by
 obtain⟨h1,h2⟩:=mA h
 exact⟨h2,fun c hc=>by have:=h1 c hc;omega,hl⟩
end
end Go.Proofs.YtppdgejjmhdjhaaGreatDoor
