/- Parts of the proof; conditions: as its theorems name them. -/
import Derived.Test.YtppdgejjmhdjhaaGreatDoorMaz
import Derived.Test.YtppdgejjmhdjhaaGreatDoorMaza
import Derived.Test.YtppdgejjmhdjhaaGreatDoorMazb
set_option linter.unusedVariables false
set_option linter.unusedSimpArgs false
set_option maxHeartbeats 8000000
set_option maxRecDepth 100000
namespace Go.Proofs.YtppdgejjmhdjhaaGreatDoor
section
theorem LX{P:Program}{g:FuncId}{ms:List MV}{σ:St}{l v:Nat}{ol ov o:aT}{u:Nat→MV}{k:MV→St→Prop}(h:aA P g ms ((St.none.set l ol).set v ov) fun r σ'=>∃q,r=u q∧σ'=St.none.set q o)(hl:σ l=some ol)(hv:σ v=some ov)
 (hk:∀q,((σ.del l).del v) q=none→R (bT (u q) (((σ.del l).del v).set q o) k)):R (cW P g ms σ k) :=
 bK h (St.aB (St.aB (St.none_le _) hl) hv) fun r σ' hq hf=>by
  obtain⟨q,rfl,rfl⟩:=hq
  have e:σ.minus ((St.none.set l ol).set v ov)=(σ.del l).del v:=by
   funext j
   by_cases h1:j=v
   ·subst h1;simp[St.minus,St.del,St.set]
   ·by_cases h2:j=l
    ·subst h2;simp[St.minus,St.del,St.set,h1]
    ·simp[St.minus,St.del,St.set,St.none,h1,h2]
  have e2:(St.none.set q o).over (σ.minus ((St.none.set l ol).set v ov))=((σ.del l).del v).set q o:=by rw[bE,dC,e]
  rw[e2]
  refine hk q ?_
  by_cases h1:q=v
  ·simp[St.del,h1]
  ·by_cases h2:q=l
   ·simp[St.del,h2]
   ·rcases hf q o (aD _ _ _) with h|⟨o',h⟩
    ·simp[St.del,h1,h2,h]
    ·simp[St.set,St.none,h1,h2] at h
theorem LW{P:Program}{g:FuncId}{ms:List MV}{σ:St}{l:Nat}{ol:aT}{o:List (List MV)→aT}{u:Nat→MV}{k:MV→St→Prop}(h:aA P g ms (St.none.set l ol) fun r σ'=>∃q ex,r=u q∧σ'=St.none.set q (o ex))(hl:σ l=some ol)
 (hk:∀q ex,(σ.del l) q=none→R (bT (u q) ((σ.del l).set q (o ex)) k)):R (cW P g ms σ k) :=
 bK h (St.aB (St.none_le _) hl) fun r σ' hq hf=>by
  obtain⟨q,ex,rfl,rfl⟩:=hq
  have e:σ.minus (St.none.set l ol)=σ.del l:=by
   funext j
   by_cases h2:j=l
   ·subst h2;simp[St.minus,St.del,St.set]
   ·simp[St.minus,St.del,St.set,St.none,h2]
  have e2:(St.none.set q (o ex)).over (σ.minus (St.none.set l ol))=(σ.del l).set q (o ex):=by rw[bE,dC,e]
  rw[e2]
  refine hk q ex ?_
  by_cases h2:q=l
  ·simp[St.del,h2]
  ·rcases hf q (o ex) (aD _ _ _) with h|⟨o',h⟩
   ·simp[St.del,h2,h]
   ·simp[St.set,St.none,h2] at h
theorem r5(x:Int)(l:List Int)(hl:l.length+1≤1000000)(t:Bool):aA Tryz.prog 114 [.lst 1 ((x::l).map aP) t] St.none (fun r σ'=>∃q,r=.vec 1 q 0 (l.length+1)∧σ'=St.none.set q (.row 3 1 ((x::l).map aP))):=by
 refine(mB 8 [.tmp 2] Tryz.func114 ?_)
 repeat' first|(refine wO ?_;intros)|refine wZ1 @Tryz.f114.eq_1 ?_|fail
 all_goals exact⟨_,rfl,rfl⟩
theorem Ol(l:List Int)(hl:l.length+1≤1000000)(hu:UpI l)(x:Int)(h1:1≤x)(h2:x<1073741824)(t:Bool):aA Tryz.prog 225 [.lst 1 (l.map aP) t,.int .i64 x] St.none (fun r _=>r=.lst 1 ((jE l x).map aP) false):=by
 have hb:=tZ l oM hu x t
 by_cases hx:x∈l
 ·have hc:=pC l oM t
  unfold jE
  rw[if_pos hx]
  rw[decide_eq_true hx] at hb
  refine aA.bS (mB 30 [.tmp 4] Tryz.func225 ?_)
  repeat' first|(refine aC hb ?_)|(refine aC hc ?_)|refine wZ1 @Tryz.f225.eq_1 ?_|fail
  all_goals exact lE
 ·rw[decide_eq_false hx] at hb
  cases l with
  | nil=>exact Ke x h1 h2 t
  | cons y l =>
   have hl':l.length+1≤1000000:=by rw[List.length_cons] at hl;omega
   have hc:=r5 y l hl' t
   unfold jE
   rw[if_neg hx]
   have hble:=o6 (y::l) x
   obtain⟨i,hi⟩:∃i,aR (y::l) x=i:=⟨_,rfl⟩
   rw[hi] at hb hble ⊢
   have hml:((y::l).map aP).length=l.length+1:=by rw[List.length_map,List.length_cons]
   have hins:=fun {q v:Nat} (h:v≠q)=>BR (l:=q) h ((y::l).map aP) (by rw[hml];omega) i (by rw[hml];exact hble) (aP x)
   have hfin:((y::l).take i++x::(y::l).drop i).map aP=((y::l).map aP).take i++aP x::((y::l).map aP).drop i:=by simp
   rw[hfin]
   rw[hml] at hins
   obtain⟨L,hL⟩:∃L,(y::l).map aP=L:=⟨_,rfl⟩
   simp only[hL] at hb hc hins hml ⊢
   have hn:(L.take i++aP x::L.drop i).length=l.length+1+1:=by rw[List.length_append,List.length_cons,List.length_take,List.length_drop,hml];simp at hble;omega
   refine aA.seen (mB 30 [.tmp 4] Tryz.func225 ?_)
   repeat' first|(refine aC hb ?_)|((refine gZ hc ?_;intro q hq))|(refine LX (hins (by assumption)) sS sS (fun r hr=>?_))|(refine wO ?_;intros)|refine wZ1 @Tryz.f225.eq_1 ?_|fail
   exact View.vecAll (aD _ _ _) hn.symm
theorem AH(l:List Int)(hl:l.length≤1000000)(hu:UpI l)(x:Int)(t:Bool):aA Tryz.prog 216 [.lst 1 (l.map aP) t,.int .i64 x] St.none (fun r _=>r=.lst 1 ((dF l x).map aP) false):=by
 have hb:=tZ l hl hu x t
 by_cases hx:x∈l
 rotate_left
 ·have hc:=pC l hl t
  have e:dF l x=l:=Bq (f:=id) (by rw[List.map_id];exact hx)
  rw[e]
  rw[decide_eq_false hx] at hb
  refine aA.bS (mB 23 [.tmp 4] Tryz.func216 ?_)
  repeat' first|(refine aC hb ?_)|(refine aC hc ?_)|refine wZ1 @Tryz.f216.eq_1 ?_|fail
  all_goals exact lE
 ·have h0:=yS (f:=id) (l:=l) (x:=x) (by rw[List.map_id];exact hu) (by rw[List.map_id];exact hx)
  obtain⟨y,h3,-⟩:=pQ (f:=id) (l:=l) (x:=x) (by rw[List.map_id];exact hu) (by rw[List.map_id];exact hx)
  rw[List.map_id] at h0 h3
  have hib:=(List.getElem?_eq_some_iff.1 h3).1
  have e:dF l x=l.take (aR l x)++l.drop (aR l x+1):=h0
  rw[e]
  rw[decide_eq_true hx] at hb
  obtain⟨i,hi⟩:∃i,aR l x=i:=⟨_,rfl⟩
  rw[hi] at hb hib ⊢
  clear h3 h0 e hi
  cases l with
  | nil=>cases hx
  | cons y l =>
   have hc:=r5 y l hl t
   have hml:((y::l).map aP).length=l.length+1:=by rw[List.length_map,List.length_cons]
   have hdel:=fun {q:Nat}=>BO (l:=q) ((y::l).map aP) (by rw[hml];exact hl) i (by rw[hml];exact hib)
   have hfin:((y::l).take i++(y::l).drop (i+1)).map aP=((y::l).map aP).take i++((y::l).map aP).drop (i+1):=by simp
   rw[hfin]
   rw[hml] at hdel
   obtain⟨L,hL⟩:∃L,(y::l).map aP=L:=⟨_,rfl⟩
   simp only[hL] at hb hc hdel hml ⊢
   have hn:(L.take i++L.drop (i+1)).length=l.length+1 - 1:=by rw[List.length_append,List.length_take,List.length_drop,hml];simp at hib;omega
   refine aA.seen (mB 23 [.tmp 4] Tryz.func216 ?_)
   repeat' first|(refine aC hb ?_)|((refine gZ hc ?_;intro q hq))|(refine LW hdel sS (fun r ex hr=>?_))|refine wZ1 @Tryz.f216.eq_1 ?_|fail
   exact fN (aD _ _ _) hn.symm
end

section
theorem bA.vW{v:MV}{q:Nat}{t:TypeId}{e:Nat}(A B:List (List MV))(pre post:List MV)(e':Nat)(tr:Bool):bA ⟨1,[(0,v)],[]⟩ (St.none.set q (.row t e (A++(pre++.aM::post)::B))) ⟨1,[(0,v)],[]⟩ (St.none.set q (.row t e (A++(pre++.lst e' [] tr::post)::B))):=by
 refine bA.tJ St.none (St.none_le _) (fun k o1 hk=>?_) (fun k o hk=>rfl) (fun p hp=>by simp at hp;subst hp;exact .same _)
 by_cases e1:k=q
 ·subst e1
  rw[aD] at hk
  cases hk
  refine⟨_,aD _ _ _,.inr ⟨t,e,_,_,rfl,rfl,by simp,fun i x x1 hx hx1=>?_⟩⟩
  by_cases hiA:i<A.length
  ·rw[List.getElem?_append_left hiA] at hx hx1
   rw[hx] at hx1;cases hx1
   exact⟨rfl,fun j a b ha hb=>by rw[ha] at hb;cases hb;exact .inl rfl⟩
  ·rw[List.getElem?_append_right oM] at hx hx1
   match hi:i - A.length with
   | 0 =>
    rw[hi] at hx hx1
    simp only[List.getElem?_cons_zero,Option.some.injEq] at hx hx1
    subst hx hx1
    refine⟨by simp,fun j a b ha hb=>?_⟩
    by_cases hj:j<pre.length
    ·rw[List.getElem?_append_left hj] at ha hb
     rw[ha] at hb;cases hb
     exact .inl rfl
    ·rw[List.getElem?_append_right oM] at ha hb
     match hk:j - pre.length with
     | 0 =>
      rw[hk] at ha hb
      simp only[List.getElem?_cons_zero,Option.some.injEq] at ha hb
      subst ha hb
      exact .inr ⟨rfl,.nil _ _⟩
     | k+1 =>
      rw[hk] at ha hb
      simp only[List.getElem?_cons_succ] at ha hb
      rw[ha] at hb;cases hb
      exact .inl rfl
   | i+1 =>
    rw[hi] at hx hx1
    simp only[List.getElem?_cons_succ] at hx hx1
    rw[hx] at hx1;cases hx1
    exact⟨rfl,fun j a b ha hb=>by rw[ha] at hb;cases hb;exact .inl rfl⟩
 ·exact absurd hk (by rw[aG _ _ _ _ e1];exact fun h=>by cases h)
theorem Kc(l:List GR)(hl:l.length+1≤1000000)(hm:∀g,g∈l→g.mem.length≤1000000)(hu:UpI (l.map GR.no))(g:Int)(h1:0≤g)(h2:g<16)(t:Bool) :
  aA Tryz.prog 148 [.lst 2 (l.map GR.c) t,.int .i64 g] St.none (fun r _=>r=if g∈l.map GR.no then .tup [.aM,.int .i64 7] else .tup [.lst 2 ((vY l g).map GR.c) false,.int .i64 0]):=by
 have hb:=gH l oM hu g t
 by_cases hx:g∈l.map GR.no
 ·rw[if_pos hx]
  rw[decide_eq_true hx] at hb
  refine aA.bS (mB 28 [.tmp 4,.tmp 5] Tryz.func148 ?_)
  repeat' first|(refine aC hb ?_)|refine wZ1 @Tryz.f148.eq_1 ?_|fail
  all_goals exact lE
 ·rw[if_neg hx]
  rw[decide_eq_false hx] at hb
  cases l with
  | nil=>exact Hl g h1 h2 t
  | cons y l =>
   have hc:=oK y l (by rw[List.length_cons] at hl;omega) hm t
   unfold vY
   have hble:=o6 ((y::l).map GR.no) g
   rw[List.length_map,List.length_cons] at hble
   rw[List.length_cons] at hl
   obtain⟨i,hi⟩:∃i,aR ((y::l).map GR.no) g=i:=⟨_,rfl⟩
   rw[hi] at hb hble ⊢
   have hml:((y::l).map GR.c).length=l.length+1:=by rw[List.length_map,List.length_cons]
   have hins:=fun {q v:Nat} (h:v≠q)=>BQ (l:=q) h ((y::l).map GR.c) (by rw[hml];omega) i (by rw[hml];exact hble) [.int .i64 g,.aM]
   have hfin:((y::l).take i++⟨g,[]⟩::(y::l).drop i).map GR.c=((y::l).map GR.c).take i++[.int .i64 g,.lst 1 [] false]::((y::l).map GR.c).drop i:=by simp
   rw[hfin]
   rw[hml] at hins
   clear hm hu hx hfin hi
   obtain⟨L,hL⟩:∃L,(y::l).map GR.c=L:=⟨_,rfl⟩
   simp only[hL] at hb hc hins hml ⊢
   have hn:∀z:List MV,(L.take i++z::L.drop i).length=l.length+1+1:=fun z=>by rw[List.length_append,List.length_cons,List.length_take,List.length_drop,hml];omega
   refine aA.gh (mB 28 [.tmp 4,.tmp 5] Tryz.func148 ?_)
   repeat' first|(refine aC hb ?_)|((refine gZ hc ?_;intro q hq))|(refine LX (hins (by assumption)) sS sS (fun r hr=>?_))|(refine wO ?_;intros)|refine wZ1 @Tryz.f148.eq_1 ?_|fail
   all_goals (try (exfalso;omega))
   refine .step (bA.vW (L.take i) (L.drop i) [.int .i64 g] [] 1 false) (.of (bA.freeze (l1:=[(0,.tup [.lst 2 (L.take i++[.int .i64 g,.lst 1 [] false]::L.drop i) false,.int .i64 0])]) (St.none.set r (.row 200 2 (L.take i++[.int .i64 g,.lst 1 [] false]::L.drop i))) (St.le_refl _) (St.none_le _) (fun k o hk=>by cases hk) (fun p hp=>?_)) ⟨_,rfl,rfl⟩)
   simp only[List.mem_singleton] at hp
   subst hp
   exact cN (View.vecAll (aD _ _ _) (hn _).symm)
theorem xO(l:List GR)(hl:l.length≤1000000)(hm:∀g,g∈l→g.mem.length≤1000000)(hu:UpI (l.map GR.no))(g:Int)(h1:0≤g)(h2:g<16)(t:Bool) :
  aA Tryz.prog 150 [.lst 2 (l.map GR.c) t,.int .i64 g] St.none (fun r _=>r=if g∈l.map GR.no then .tup [.lst 2 ((mC l g).map GR.c) false,.int .i64 0] else .tup [.aM,.int .i64 6]):=by
 have hb:=gH l hl hu g t
 by_cases hx:g∈l.map GR.no
 rotate_left
 ·rw[if_neg hx]
  rw[decide_eq_false hx] at hb
  refine aA.bS (mB 28 [.tmp 4,.tmp 5] Tryz.func150 ?_)
  repeat' first|(refine aC hb ?_)|refine wZ1 @Tryz.f150.eq_1 ?_|fail
  all_goals exact lE
 ·rw[if_pos hx]
  rw[decide_eq_true hx] at hb
  have e:mC l g=_:=yS (f:=GR.no) hu hx
  obtain⟨y,h3,-⟩:=pQ (f:=GR.no) hu hx
  have hib:=(List.getElem?_eq_some_iff.1 h3).1
  rw[e]
  obtain⟨i,hi⟩:∃i,aR (l.map GR.no) g=i:=⟨_,rfl⟩
  rw[hi] at hb hib ⊢
  clear h3 e hi hu
  cases l with
  | nil=>cases hx
  | cons y l =>
   clear hx
   have hc:=oK y l (by rw[List.length_cons] at hl;omega) hm t
   have hml:((y::l).map GR.c).length=l.length+1:=by rw[List.length_map,List.length_cons]
   have hdel:=fun {q:Nat}=>BN (l:=q) ((y::l).map GR.c) (by rw[hml];exact hl) i (by rw[hml];exact hib)
   have hfin:((y::l).take i++(y::l).drop (i+1)).map GR.c=((y::l).map GR.c).take i++((y::l).map GR.c).drop (i+1):=by simp
   rw[hfin]
   rw[hml] at hdel
   obtain⟨L,hL⟩:∃L,(y::l).map GR.c=L:=⟨_,rfl⟩
   simp only[hL] at hb hc hdel hml ⊢
   have hn:(L.take i++L.drop (i+1)).length=l.length+1 - 1:=by rw[List.length_append,List.length_take,List.length_drop,hml];simp at hib;omega
   refine aA.seen (mB 28 [.tmp 4,.tmp 5] Tryz.func150 ?_)
   repeat' first|(refine aC hb ?_)|((refine gZ hc ?_;intro q hq))|(refine LW hdel sS (fun r ex hr=>?_))|refine wZ1 @Tryz.f150.eq_1 ?_|fail
   all_goals (try (exfalso;omega))
   exact cN (fN (aD _ _ _) hn.symm)
end

section
theorem rY{G:FuncId}(l:List GR)(hl:l.length≤1000000)(hm:∀g,g∈l→g.mem.length≤1000000)(hu:UpI (l.map GR.no))(g:Int)(h3:0≤g)(h4:g<16)(hg:g∈l.map GR.no)(id:Int)(h1:1≤id)(h2:id<1073741824)(k:Nat)(M:List Int)(t:Bool)
 (hf:aA Tryz.prog G [.lst 1 ((bH l g).map aP) false,.ptr k 0 0] (St.none.set k (.row 3 1 [[.int .i64 id]])) (fun r σ'=>r=.tup [.lst 1 (M.map aP) false,.int .i64 0]∧σ'=St.none.set k (.row 3 1 [[.int .i64 id]]))) :
  aA Tryz.prog 223 [.lst 2 (l.map GR.c) t,.int .i64 g,.int .i64 id,.fn (.func G) [] [.ptr k 0 0]] (St.none.set k (.row 3 1 [[.int .i64 id]])) (fun r σ'=>r=.tup [.lst 2 ((eW l g M).map GR.c) false,.int .i64 0]∧σ'=St.none):=by
 have hb:=gH l hl hu g t
 rw[decide_eq_true hg] at hb
 obtain⟨y,h5,h6,h7,h8⟩:=fQ hu hg
 have hset:eW l g M=_:=yT (f:=GR.no) hu hg ⟨g,M⟩
 have hib:=(List.getElem?_eq_some_iff.1 h8).1
 have hat:=bN (f:=GR.c) h8
 rw[h7] at hf
 rw[hset]
 obtain⟨i,hi⟩:∃i,aR (l.map GR.no) g=i:=⟨_,rfl⟩
 rw[hi] at hb hib hat ⊢
 rw[List.map_set]
 cases l with
 | nil=>cases hg
 | cons z l =>
  have hc:=oK z l (by rw[List.length_cons] at hl;omega) hm t
  have hml:((z::l).map GR.c).length=l.length+1:=by rw[List.length_map,List.length_cons]
  have hib':i<l.length+1:=by rw[List.length_cons] at hib;exact hib
  clear hm hu hg hi hset h7 h8 hib hl
  obtain⟨L,hL⟩:∃L,(z::l).map GR.c=L:=⟨_,rfl⟩
  simp only[hL] at hb hc hml hat ⊢
  have hn:∀z:List MV,(L.set i z).length=l.length+1:=fun z=>by rw[List.length_set,hml]
  have hat:L.getD i []=[.int .i64 g,.lst 1 (y.mem.map aP) false]:=by rw[hat,←h6]
  refine aA.C0 (mB 58 [.tmp 8,.tmp 9] Tryz.func223 ?_)
  repeat' first|(refine aC hb ?_)|(refine dI hf ?_)|((refine gZ hc ?_;intro q hq;have hqk:=(yW hq).1;have hkq:=Ne.symm hqk))|refine wZ2 @Tryz.f223.eq_1 @hat ?_|fail
  all_goals (try (exfalso;omega))
  exact⟨St.none.set q (.row 200 2 (L.set i (GR.mk g M).c)),St.aB (St.none_le _) (aD _ _ _),St.none_le _,fun k o hk=>hk.elim,cN (View.vecAll (aD _ _ _) (hn _).symm)⟩
theorem kA{G:FuncId}(l:List GR)(hl:l.length≤1000000)(hu:UpI (l.map GR.no))(g:Int)(h3:0≤g)(h4:g<16)(id:Int)(h1:1≤id)(h2:id<1073741824)(k:Nat)(t:Bool)(e:Int)(he:e≠0)
 (hf:g∈l.map GR.no→aA Tryz.prog G [.lst 1 ((bH l g).map aP) false,.ptr k 0 0] (St.none.set k (.row 3 1 [[.int .i64 id]])) (fun r σ'=>r=.tup [.aM,.int .i64 e]∧σ'=St.none.set k (.row 3 1 [[.int .i64 id]])))(he6:g∉l.map GR.no→e=6) :
  aA Tryz.prog 223 [.lst 2 (l.map GR.c) t,.int .i64 g,.int .i64 id,.fn (.func G) [] [.ptr k 0 0]] (St.none.set k (.row 3 1 [[.int .i64 id]])) (fun r σ'=>r=.tup [.aM,.int .i64 e]∧σ'=St.none.set k (.row 3 1 [[.int .i64 id]])):=by
 have hb:=gH l hl hu g t
 by_cases hg:g∈l.map GR.no
 ·rw[decide_eq_true hg] at hb
  obtain⟨y,h5,h6,h7,h8⟩:=fQ hu hg
  have hib:=(List.getElem?_eq_some_iff.1 h8).1
  have hat:=bN (f:=GR.c) h8
  have hf:=hf hg
  rw[h7] at hf
  obtain⟨i,hi⟩:∃i,aR (l.map GR.no) g=i:=⟨_,rfl⟩
  rw[hi] at hb hib hat
  clear he6 hu hg hi h7 h8
  refine(mB 58 [.tmp 8,.tmp 9] Tryz.func223 ?_)
  repeat' first|(refine aC hb ?_)|(refine dI hf ?_)|refine wZ2 @Tryz.f223.eq_1 @hat ?_|exact wC2 @Tryz.f223.eq_1 @hat|fail
  all_goals first|exact⟨rfl,rfl⟩|(exfalso;omega)
 ·rw[decide_eq_false hg] at hb
  rw[he6 hg]
  refine(mB 58 [.tmp 8,.tmp 9] Tryz.func223 ?_)
  repeat' first|(refine aC hb ?_)|refine wZ1 @Tryz.f223.eq_1 ?_|exact wC1 @Tryz.f223.eq_1|fail
  all_goals first|exact⟨rfl,rfl⟩|(exfalso;omega)
theorem Hh(m:List Int)(hm:m.length+1≤1000000)(hu:UpI m)(id:Int)(k:Nat)(h1:1≤id)(h2:id<1073741824):aA Tryz.prog 224 [.lst 1 (m.map aP) false,.ptr k 0 0] (St.none.set k (.row 3 1 [[.int .i64 id]])) (fun r σ'=>r=(if id∈m then .tup [.aM,.int .i64 7] else .tup [.lst 1 ((jE m id).map aP) false,.int .i64 0])∧σ'=St.none.set k (.row 3 1 [[.int .i64 id]])):=by
 refine(mB 11 [.tmp 3,.tmp 4] Tryz.func224 ?_)
 have hh:=p9 m oM hu id false
 have hp:=Ol m hm hu id h1 h2 false
 by_cases hx:id∈m
 ·rw[if_pos hx]
  rw[decide_eq_true hx] at hh
  repeat' first|(refine aC hh ?_)|(refine aC hp ?_)|refine wZ1 @Tryz.f224.eq_1 ?_|exact wC1 @Tryz.f224.eq_1|fail
  all_goals exact⟨rfl,rfl⟩
 ·rw[if_neg hx]
  rw[decide_eq_false hx] at hh
  repeat' first|(refine aC hh ?_)|(refine aC hp ?_)|refine wZ1 @Tryz.f224.eq_1 ?_|exact wC1 @Tryz.f224.eq_1|fail
  all_goals exact⟨rfl,rfl⟩
theorem Hm(m:List Int)(hm:m.length≤1000000)(hu:UpI m)(id:Int)(k:Nat):aA Tryz.prog 226 [.lst 1 (m.map aP) false,.ptr k 0 0] (St.none.set k (.row 3 1 [[.int .i64 id]])) (fun r σ'=>r=(if id∈m then .tup [.lst 1 ((dF m id).map aP) false,.int .i64 0] else .tup [.aM,.int .i64 6])∧σ'=St.none.set k (.row 3 1 [[.int .i64 id]])):=by
 refine(mB 12 [.tmp 3,.tmp 4] Tryz.func226 ?_)
 have hh:=p9 m hm hu id false
 have hp:=AH m hm hu id false
 by_cases hx:id∈m
 ·rw[if_pos hx]
  rw[decide_eq_true hx] at hh
  repeat' first|(refine aC hh ?_)|(refine aC hp ?_)|refine wZ1 @Tryz.f226.eq_1 ?_|exact wC1 @Tryz.f226.eq_1|fail
  all_goals exact⟨rfl,rfl⟩
 ·rw[if_neg hx]
  rw[decide_eq_false hx] at hh
  repeat' first|(refine aC hh ?_)|(refine aC hp ?_)|refine wZ1 @Tryz.f226.eq_1 ?_|exact wC1 @Tryz.f226.eq_1|fail
  all_goals exact⟨rfl,rfl⟩
structure GrF (l:List GR):Prop where
 len:l.length+1≤1000000
 mem:∀g,g∈l→g.mem.length+1≤1000000
 up:UpI (l.map GR.no)
 upm:∀g,g∈l→UpI g.mem
theorem GrF.Qt{l:List GR}(h:GrF l)(g:Int):(bH l g).length+1≤1000000∧UpI (bH l g):=by
 unfold bH
 cases hf:l.find? fun x=>decide (x.no=g) with
 | none=>exact⟨by simp,.nil⟩
 | some x=>exact⟨h.mem x (List.mem_of_find?_eq_some hf),h.upm x (List.mem_of_find?_eq_some hf)⟩
theorem Hi(l:List GR)(h:GrF l)(g id:Int)(h3:0≤g)(h4:g<16)(h1:1≤id)(h2:id<1073741824)(t:Bool):aA Tryz.prog 152 [.lst 2 (l.map GR.c) t,.int .i64 g,.int .i64 id] St.none
  (fun r _=>r=if g∈l.map GR.no then(if id∈bH l g then .tup [.aM,.int .i64 7] else .tup [.lst 2 ((eW l g (jE (bH l g) id)).map GR.c) false,.int .i64 0]) else .tup [.aM,.int .i64 6]):=by
 refine aA.bS (mB 15 [.tmp 6,.tmp 7] Tryz.func152 ?_)
 obtain⟨m1,m2⟩:=h.Qt g
 have hm:∀g,g∈l→g.mem.length≤1000000:=fun g hg=>by have:=h.mem g hg;omega
 have hl:=h.len
 have hj:=fun k=>Hh (bH l g) m1 m2 id k h1 h2
 by_cases hg:g∈l.map GR.no
 ·rw[if_pos hg]
  by_cases hi:id∈bH l g
  ·simp only[if_pos hi] at hj ⊢
   have ht:=fun k=>kA l oM h.up g h3 h4 id h1 h2 k t 7 (by decide) (fun _=>hj k) (fun h=>absurd hg h)
   repeat' first|(refine dI (ht _) ?_)|(refine wO ?_;intros)|refine wZ1 @Tryz.f152.eq_1 ?_|fail
   all_goals exact lE
  ·simp only[if_neg hi] at hj ⊢
   have ht:=fun k=>rY l oM hm h.up g h3 h4 hg id h1 h2 k _ t (hj k)
   repeat' first|(refine dI (ht _) ?_)|(refine wO ?_;intros)|refine wZ1 @Tryz.f152.eq_1 ?_|fail
   all_goals exact lE
 ·rw[if_neg hg]
  have ht:=fun k=>kA (G:=224) l oM h.up g h3 h4 id h1 h2 k t 6 (by decide) (fun h=>absurd h hg) (fun _=>rfl)
  repeat' first|(refine dI (ht _) ?_)|(refine wO ?_;intros)|refine wZ1 @Tryz.f152.eq_1 ?_|fail
  all_goals exact lE
theorem Hn(l:List GR)(h:GrF l)(g id:Int)(h3:0≤g)(h4:g<16)(h1:1≤id)(h2:id<1073741824)(t:Bool):aA Tryz.prog 153 [.lst 2 (l.map GR.c) t,.int .i64 g,.int .i64 id] St.none
  (fun r _=>r=if g∈l.map GR.no then(if id∈bH l g then .tup [.lst 2 ((eW l g (dF (bH l g) id)).map GR.c) false,.int .i64 0] else .tup [.aM,.int .i64 6]) else .tup [.aM,.int .i64 6]):=by
 refine aA.bS (mB 15 [.tmp 6,.tmp 7] Tryz.func153 ?_)
 obtain⟨m1,m2⟩:=h.Qt g
 have hm:∀g,g∈l→g.mem.length≤1000000:=fun g hg=>by have:=h.mem g hg;omega
 have hl:=h.len
 have hj:=fun k=>Hm (bH l g) oM m2 id k
 by_cases hg:g∈l.map GR.no
 ·rw[if_pos hg]
  by_cases hi:id∈bH l g
  ·simp only[if_pos hi] at hj ⊢
   have ht:=fun k=>rY l oM hm h.up g h3 h4 hg id h1 h2 k _ t (hj k)
   repeat' first|(refine dI (ht _) ?_)|(refine wO ?_;intros)|refine wZ1 @Tryz.f153.eq_1 ?_|fail
   all_goals exact lE
  ·simp only[if_neg hi] at hj ⊢
   have ht:=fun k=>kA l oM h.up g h3 h4 id h1 h2 k t 6 (by decide) (fun _=>hj k) (fun h=>absurd hg h)
   repeat' first|(refine dI (ht _) ?_)|(refine wO ?_;intros)|refine wZ1 @Tryz.f153.eq_1 ?_|fail
   all_goals exact lE
 ·rw[if_neg hg]
  have ht:=fun k=>kA (G:=226) l oM h.up g h3 h4 id h1 h2 k t 6 (by decide) (fun h=>absurd h hg) (fun _=>rfl)
  repeat' first|(refine dI (ht _) ?_)|(refine wO ?_;intros)|refine wZ1 @Tryz.f153.eq_1 ?_|fail
  all_goals exact lE
end

section
theorem J9(l:List GR)(hl:l.length≤1000000)(hu:UpI (l.map GR.no))(g:Int)(t:Bool)(hg:g∈l.map GR.no)(hn:bH l g=[]) :
  aA Tryz.prog 149 [.lst 2 (l.map GR.c) t,.int .i64 g] St.none (fun r _=>r=.lst 1 [] true):=by
 have hb:=gH l hl hu g t
 refine aA.bS (mB 21 [.tmp 4] Tryz.func149 ?_)
 rw[decide_eq_true hg] at hb
 obtain⟨y,h5,h6,h7,h8⟩:=fQ hu hg
 have hib:=(List.getElem?_eq_some_iff.1 h8).1
 have hat:=bN (f:=GR.c) h8
 have hy:y.mem=[]:=h7.symm.trans hn
 have hat:(l.map GR.c).getD (aR (l.map GR.no) g) []=[.int .i64 y.no,.lst 1 [] false]:=by rw[hat];show[_,MV.lst 1 (y.mem.map aP) false]=_;rw[hy];first|done|rfl
 obtain⟨i,hi⟩:∃i,aR (l.map GR.no) g=i:=⟨_,rfl⟩
 rw[hi] at hb hib hat
 clear hu hg hi h7 h8
 have hc:=rM 1 false true
 repeat' first|(refine aC hb ?_)|(refine aC hc ?_)|refine wZ2 @Tryz.f149.eq_1 @hat ?_|fail
 all_goals exact lE
theorem J8(l:List GR)(hl:l.length≤1000000)(hu:UpI (l.map GR.no))(g:Int)(t:Bool)(hg:g∉l.map GR.no) :
  aA Tryz.prog 149 [.lst 2 (l.map GR.c) t,.int .i64 g] St.none (fun r _=>r=.aM):=by
 have hb:=gH l hl hu g t
 refine aA.bS (mB 21 [.tmp 4] Tryz.func149 ?_)
 rw[decide_eq_false hg] at hb
 repeat' first|(refine aC hb ?_)|refine wZ1 @Tryz.f149.eq_1 ?_|fail
 all_goals exact lE
theorem Ka(l:List GR)(hl:l.length≤1000000)(hu:UpI (l.map GR.no))(g:Int)(t:Bool){x:Int}{M:List Int}(hn:bH l g=x::M)(hM:M.length+1≤1000000) :
  aA Tryz.prog 149 [.lst 2 (l.map GR.c) t,.int .i64 g] St.none (fun r σ'=>∃q,r=.vec 1 q 0 (M.length+1)∧σ'=St.none.set q (.row 3 1 ((x::M).map aP))):=by
 have hb:=gH l hl hu g t
 by_cases hg:g∈l.map GR.no
 ·rw[decide_eq_true hg] at hb
  obtain⟨y,h5,h6,h7,h8⟩:=fQ hu hg
  have hib:=(List.getElem?_eq_some_iff.1 h8).1
  have hat:=bN (f:=GR.c) h8
  have hy:y.mem=x::M:=h7.symm.trans hn
  have hat:(l.map GR.c).getD (aR (l.map GR.no) g) []=[.int .i64 y.no,.lst 1 ((x::M).map aP) false]:=by rw[hat];show[_,MV.lst 1 (y.mem.map aP) false]=_;rw[hy];first|done|rfl
  obtain⟨i,hi⟩:∃i,aR (l.map GR.no) g=i:=⟨_,rfl⟩
  rw[hi] at hb hib hat
  clear hu hg hi h7 h8 hn hy
  have hc:=r5 x M hM false
  obtain⟨K,hK⟩:∃K,(x::M).map aP=K:=⟨_,rfl⟩
  rw[hK] at hat hc ⊢
  refine(mB 21 [.tmp 4] Tryz.func149 ?_)
  repeat' first|(refine aC hb ?_)|((refine gZ hc ?_;intro q hq))|refine wZ2 @Tryz.f149.eq_1 @hat ?_|fail
  all_goals first|exact⟨_,rfl,rfl⟩|(exfalso;omega)
 ·unfold bH at hn
  rw[FU (f:=GR.no) hg] at hn
  cases hn
theorem Tu{l:List GR}{id:Int}{i:Nat}{y:GR}(h:l[i]?=some y):((lvG (l.take i) id).map GR.c++(l.drop i).map GR.c).set i (GR.mk y.no (dF y.mem id)).c=(lvG (l.take (i+1)) id).map GR.c++(l.drop (i+1)).map GR.c∧((lvG (l.take i) id).map GR.c++(l.drop i).map GR.c).getD i []=y.c:=by
 have hi:=(List.getElem?_eq_some_iff.1 h).1
 have hlen:((lvG (l.take i) id).map GR.c).length=i:=by rw[List.length_map];unfold lvG;rw[List.length_map,List.length_take];omega
 have hd:l.drop i=y::l.drop (i+1):=by
  rw[List.drop_eq_getElem_cons hi]
  rw[(List.getElem?_eq_some_iff.1 h).2]
 rw[hd]
 constructor
 ·rw[aZ h]
  have:lvG (l.take i++[y]) id=lvG (l.take i) id++[⟨y.no,dF y.mem id⟩]:=by unfold lvG;rw[List.map_append];rfl
  rw[this,List.map_append,List.set_append_right _ _ oM,hlen,Nat.sub_self]
  simp
 ·rw[List.getD_eq_getElem?_getD,List.getElem?_append_right oM,hlen,Nat.sub_self]
  rfl
theorem xQ(l:List GR)(h:GrF l)(id:Int)(t:Bool):aA Tryz.prog 147 [.lst 2 (l.map GR.c) t,.int .i64 id] St.none (fun r _=>r=.lst 2 ((lvG l id).map GR.c) false):=by
 cases l with
 | nil =>
  have hc:=tD 2 t false
  refine aA.bS (mB 27 [.tmp 4] Tryz.func147 ?_)
  repeat' first|(refine aC hc ?_)|refine wZ1 @Tryz.f147.eq_1 ?_|fail
  refine aF (α:=Unit) (fun _=>⟨27,[(11,.int .i64 0),(10,.int .i64 0),(5,.lst 2 [] false),(1,.int .i64 id)],[]⟩) (fun _=>St.none) (fun _=>True) (fun _=>0) (.of (.less ?_ (St.le_refl _)) ⟨(),rfl,rfl,trivial⟩) ?_
  ·exact wW
  ·intro _ _
   repeat' first|refine wZ0 ?_|fail
   all_goals exact lE
 | cons y l =>
  have hl:=h.len
  rw[List.length_cons] at hl
  have hc:=zL y l oM t
  obtain⟨L,hL⟩:∃L,y::l=L:=⟨_,rfl⟩
  have hLl:L.length=l.length+1:=by rw[←hL];rfl
  obtain⟨n,hn⟩:∃n,l.length+1=n:=⟨_,rfl⟩
  rw[hL] at h hc ⊢
  rw[hn] at hc hLl hl
  refine aA.seen (mB 27 [.tmp 4] Tryz.func147 ?_)
  repeat' first|((refine gZ hc ?_;intro q hq))|refine wZ1 @Tryz.f147.eq_1 ?_|fail
  refine aF (α:=Nat) (fun i=>⟨27,[(11,.int .i64 (i:Int)),(10,.int .i64 (n:Int)),(5,.vec 2 q 0 n),(1,.int .i64 id)],[]⟩) (fun i=>St.none.set q (.row 200 2 ((lvG (L.take i) id).map GR.c++(L.drop i).map GR.c))) (fun i=>i≤n) (fun i=>n - i) (.of (.less ?_ (St.le_refl _)) ⟨0,rfl,rfl,Nat.zero_le _⟩) ?_
  ·exact wW
  ·intro i hi
   have hi:i≤n:=hi
   by_cases hlt:i<n
   ·obtain⟨z,hz⟩:=bU L (show i<L.length by omega)
    obtain⟨hset,hget⟩:=Tu (id:=id) hz
    have hlen:((lvG (L.take i) id).map GR.c++(L.drop i).map GR.c).length=n:=by unfold lvG;simp;omega
    obtain⟨X,hX⟩:∃X,(lvG (L.take i) id).map GR.c++(L.drop i).map GR.c=X:=⟨_,rfl⟩
    rw[hX] at hset hget hlen ⊢
    have hd:=AH z.mem (by have:=h.mem z (dY hz);omega) (h.upm z (dY hz)) id false
    obtain⟨Y,hY⟩:∃Y,(dF z.mem id).map aP=Y:=⟨_,rfl⟩
    have hset:X.set i [.int .i64 z.no,.lst 1 Y false]=(lvG (L.take (i+1)) id).map GR.c++(L.drop (i+1)).map GR.c:=by rw[←hset,←hY]
    rw[hY] at hd
    repeat' first|(refine aC hd ?_)|refine wZ3 @hget @hlen @hset ?_|fail
    all_goals (try (exfalso;omega))
    all_goals
     refine .of (.less ?_ (St.le_refl _)) ⟨i+1,rfl,rfl,(by omega:i+1≤n),by omega⟩
     exact wW
   ·have:i=n:=by omega
    subst this
    rw[List.take_of_length_le oM,List.drop_of_length_le oM,List.map_nil,List.append_nil]
    have hlen:((lvG L id).map GR.c).length=i:=by unfold lvG;simp;omega
    repeat' first|refine wZ0 ?_|fail
    all_goals (try (exfalso;omega))
    all_goals exact View.vecAll (aD _ _ _) hlen.symm
end

section
theorem FJ{id:Int}:∀{cs:List CA},UpI (cs.map CA.id)→tL id (cEs cs)=cEs (cs.filter fun c=>!decide (c.id=id))
 | [],_=>rfl
 | c::cs,h=>by
  obtain⟨h1,h2⟩:=List.pairwise_cons.1 h
  by_cases hc:c.id=id
  ·have e:cs.filter (fun c=>!decide (c.id=id))=cs:=List.filter_eq_self.2 fun z hz=>by
    have:=h1 z.id (List.mem_map.2 ⟨z,hz,rfl⟩)
    simp;omega
   rw[List.filter_cons_of_neg (by simp[hc]),e]
   simp[cEs,tL,hc]
  ·rw[List.filter_cons_of_pos (by simp[hc])]
   have ih:=FJ (id:=id) h2
   simp only[cEs,List.map_cons,tL,if_neg hc] at ih ⊢
   rw[ih]
theorem Ha(y:DE)(L:List DE)(hl:L.length+1≤1000000)(tt:Bool):aA Tryz.prog 214 [.lst 3 ((y::L).map DE.c) tt] St.none (fun r σ'=>∃q,r=.vec 3 q 0 (L.length+1)∧σ'=St.none.set q (.row 197 3 ((y::L).map DE.c))):=by
 refine(mB 8 [.tmp 2] Tryz.func214 ?_)
 repeat' first|(refine wO ?_;intros)|refine wZ1 @Tryz.f214.eq_1 ?_|fail
 all_goals exact⟨_,rfl,rfl⟩
theorem xN{g n:Nat}(xs:List (List MV))(y:DE)(L:List DE)(hn:n=L.length+1)(hl:L.length+1≤1000000)(h:(xs.drop 1).take n=(y::L).map DE.c)(hx:1+n≤xs.length) :
  aA Tryz.prog 214 [.vec 3 g 1 n] (St.none.set g (.row 197 3 xs)) (fun r σ'=>∃q,r=.vec 3 q 0 (L.length+1)∧σ'=St.none.set q (.row 197 3 ((y::L).map DE.c))) :=
 aA.pre (ms':=[.lst 3 ((y::L).map DE.c) false]) rfl (bA.freeze (St.none.set g (.row 197 3 xs)) (St.le_refl _) (St.none_le _) (fun k o hk=>by cases hk) (fun p hp=>by
  simp only[iG,List.mem_singleton] at hp
  subst hp
  rw[←h]
  exact View.vec (aD _ _ _) hx)) (Ha y L hl false)
theorem zI{ds:List DE}{t:DE}(h:ds.length=40):∃y L',o9 (ds++[t])=y::L'∧L'.length=39∧∀R:List (List MV),((ds.map DE.c++[t.c]++R).drop 1).take 40=(y::L').map DE.c:=by
 cases ds with
 | nil=>simp at h
 | cons d ds =>
  simp only[List.length_cons] at h
  cases ds with
  | nil=>simp at h
  | cons y L =>
   simp only[List.length_cons] at h
   refine⟨y,L++[t],?_,by rw[List.length_append,List.length_singleton];omega,fun R=>?_⟩
   ·unfold o9
    rw[if_pos (by simp;omega)]
    rfl
   ·rw[List.map_cons,List.cons_append,List.cons_append,List.drop_succ_cons,List.drop_zero,←List.map_singleton (f:=DE.c),←List.map_append]
    exact List.take_left' (by simp;omega)
theorem Hp(nx:Int){m l q:Nat}(hlm:l≠m)(hqm:q≠m)(hql:q≠l)(cs:List CA)(ds:List DE)(hd:ds.length≤1000000)(ex:List (List MV))(id sq:Int)(he:(bB cs ds id).2≠0) :
  aA Tryz.prog 145 [.ptr l 0 0,.int .i64 id,.int .i64 sq] (shS nx m l q cs ds ex) (fun r σ'=>r=.int .i64 (bB cs ds id).2∧σ'=shS nx m l q cs ds ex):=by
 refine aA.less (Q':=fun r σ'=>r=.int .i64 (bB cs ds id).2∧(shS nx m l q cs ds ex).le σ') (mB 81 [.tmp 6] Tryz.func145 ?_) fun v σ' h=>⟨_,h.2,h.1,rfl⟩
 have hg:=iE nx hlm hqm hql cs ds hd ex id
 have hml:=Ne.symm hlm
 have hmq:=Ne.symm hqm
 have hlq:=Ne.symm hql
 obtain⟨⟨c,e⟩,hce⟩:∃z,bB cs ds id=z:=⟨_,rfl⟩
 rw[hce] at hg he ⊢
 simp only[shS] at hg he ⊢
 repeat' first|(refine b6 hg (St.le_refl _) ?_)|(refine wO ?_;intros)|refine wZ2 @Tryz.f145.eq_1 @FXs ?_|fail
 all_goals first|(exfalso;omega)|skip
 exact St.bM (St.le_refl _) (by simp[St.set,St.none, *])
theorem Es(nx:Int){m l q:Nat}(hlm:l≠m)(hqm:q≠m)(hql:q≠l)(cs:List CA)(hu:UpI (cs.map CA.id))(ds:List DE)(hd:ds.length≤40)(ex:List (List MV))(id sq:Int){c:CA}(hc:bB cs ds id=(c,0))(h0:0≤sq)(h1:sq≤1099511627776)(h2:∀d,d∈ds→d.sq≤sq) :
  aA Tryz.prog 145 [.ptr l 0 0,.int .i64 id,.int .i64 sq] (shS nx m l q cs ds ex) (fun r σ'=>∃q' ex',(q'≠m∧q'≠l)∧r=.int .i64 0∧σ'=shS nx m l q' (cs.filter fun c=>!decide (c.id=id)) (o9 (ds++[⟨id,c.ver,sq⟩])) ex'):=by
 refine aA.less (Q':=fun r σ'=>∃q' ex',(q'≠m∧q'≠l)∧r=.int .i64 0∧(shS nx m l q' (cs.filter fun c=>!decide (c.id=id)) (o9 (ds++[⟨id,c.ver,sq⟩])) ex').le σ') ?_ fun v σ' ⟨q',ex',h1,h2,h3⟩=>⟨_,h3,q',ex',h1,h2,rfl⟩
 have hg:=iE nx hlm hqm hql cs ds oM ex id
 have hml:=Ne.symm hlm
 have hmq:=Ne.symm hqm
 have hlq:=Ne.symm hql
 have hdel:=FJ (id:=id) hu
 have hik:=qV cs
 rw[hc] at hg
 obtain⟨F,hF⟩:∃F,cs.filter (fun c=>!decide (c.id=id))=F:=⟨_,rfl⟩
 rw[hF] at hdel ⊢
 have hdm:(ds.map DE.c).length=ds.length:=List.length_map _
 have hlast:ds.length=0∨0<ds.length∧∃d,((ds.map DE.c++ex).getD (ds.length - 1) []=DE.c d)∧d.sq≤sq:=by
  rcases Nat.eq_zero_or_pos ds.length with h|h
  ·exact .inl h
  ·obtain⟨d,hd'⟩:=bU ds (show ds.length - 1<ds.length by omega)
   exact .inr ⟨h,d,by rw[FC oM];exact bN hd',h2 d (dY hd')⟩
 simp only[shS] at hg ⊢
 clear hu
 refine(aA.gW 81 [.tmp 6] Tryz.func145 rfl rfl rfl rfl ?_)
 refine a8 (b5 ?_)
 repeat' first|refine wZ1 @FXs ?_|fail
 refine bL (a8 (b5 ?_))
 repeat' first|(refine b6 hg (St.le_refl _) ?_)|(refine wM ?_;(first|(have _:=nl1)|(intro nl1));intros)|refine wZ1 @FXs ?_|fail
 refine bL (a8 (b5 ?_))
 repeat' first|refine wZ1 @FXs ?_|fail
 refine bL (a8 (b5 ?_))
 repeat' first|refine wZ1 @FXs ?_|fail
 have hdn:((ds.length:Int) - 1).toNat=ds.length - 1:=by omega
 have hdr:(ds.map DE.c++ex).drop (ds.length+1)=ex.drop 1:=by rw[←hdm,←List.drop_drop,List.drop_left]
 have htk:(ds.map DE.c++ex).take ds.length=ds.map DE.c:=List.take_left' hdm
 have hcap:ds.length+1≤40→o9 (ds++[⟨id,c.ver,sq⟩])=ds++[⟨id,c.ver,sq⟩]:=fun h=>if_neg (by rw[List.length_append,List.length_singleton];omega)
 have hQ:(ds++[(⟨id,c.ver,sq⟩:DE)]).map DE.c=ds.map DE.c++[[.int .i64 id,.int .i64 c.ver,.int .i64 sq]]:=List.map_append
 rcases hlast with hz|⟨hpos,d,hat,hsq⟩
 ·refine bL (a8 (b5 ?_))
  repeat' first|refine wZ2 @FXs @hz ?_|fail
  all_goals (try (exfalso;omega))
  refine bL (a8 (bQ [_,_,_,_,_] _ [] rfl rfl ?_))
  repeat' first|refine wZ1 @FXs ?_|fail
  refine bL (kB (t:=249) (l:=m) (es:=cEs cs) (kd:=.i64) (n:=id) rfl (by rw[H0]) (by rw[td3]) rfl sS rfl hik ?_)
  rw[hdel]
  refine bL (b5 ?_)
  repeat' first|(refine wM ?_;(first|(have _:=nl3)|(have _:=nl2;intro nl3)|(intro nl2));intros)|refine wV ?_|(refine wY ?_ ?_<;>intro h)|refine wZ4 @FXs @hdm @hdr @htk ?_|fail
  all_goals
   obtain rfl:ds=[]:=List.eq_nil_of_length_eq_zero hz
   rw[hcap (by simp)]
   have n1:nl3≠m:=by assumption
   have n2:nl3≠l:=by assumption
  ·obtain rfl:ex=[]:=List.eq_nil_of_length_eq_zero (by simp at h;omega)
   clear hdr htk hdm hdn hQ hcap hdel hik hF hg h hz h2 hd hc h0 h1
   refine⟨nl3,[],⟨n1,n2⟩,St.aB (St.aB (St.aB (St.none_le _) ?_) ?_) ?_⟩
   all_goals simp[St.set, *]
  ·clear hdr htk hdm hdn hQ hcap hdel hik hF hg h hz h2 hd hc h0 h1
   refine⟨nl3,ex.drop 1,⟨n1,n2⟩,St.aB (St.aB (St.aB (St.none_le _) ?_) ?_) ?_⟩
   all_goals simp[St.set, *]
 ·refine bL (a8 (b5 ?_))
  repeat' first|refine wZ4 @FXs @hat @hdn @hdm ?_|fail
  all_goals (try (exfalso;omega))
  refine bL (a8 (bQ [_,_,_,_,_] _ [] rfl rfl ?_))
  repeat' first|refine wZ1 @FXs ?_|fail
  refine bL (kB (t:=249) (l:=m) (es:=cEs cs) (kd:=.i64) (n:=id) rfl (by rw[H0]) (by rw[td3]) rfl sS rfl hik ?_)
  rw[hdel]
  refine bL (b5 ?_)
  repeat' first|(refine wM ?_;(first|(have _:=nl3)|(have _:=nl2;intro nl3)|(intro nl2));intros)|refine wV ?_|(refine wY ?_ ?_<;>intro h)|refine wZ4 @FXs @hdm @hdr @htk ?_|fail
  all_goals
   have n1:nl3≠m:=by assumption
   have n2:nl3≠l:=by assumption
  ·obtain rfl:ex=[]:=List.eq_nil_of_length_eq_zero oM
   have h40:ds.length=40:=by omega
   obtain⟨y,L',hcp,hL',hw⟩:=zI (t:=(⟨id,c.ver,sq⟩:DE)) h40
   rw[hcp]
   refine uX (aD _ _ _) (xN (ds.map DE.c++[]++[[.int .i64 id,.int .i64 c.ver,.int .i64 sq]]) y L' oM oM ?_ ?_) fun q2 hq2=>?_
   ·rw[h40]
    exact(by have:=hw [];simpa using this)
   ·rw[h40]
    simp only[List.length_append,List.length_map,List.length_cons,List.length_nil,h40]
    omega
   clear hw hcp hdr htk hdm hdn hcap hdel hik hF hg h hat h2 hd hc h0 h1
   have m1:q2≠m:=fun e=>by subst e;simp[St.set,St.del, *] at hq2
   have m2:q2≠l:=fun e=>by subst e;simp[St.set,St.del, *] at hq2
   clear hq2
   have m1':=Ne.symm m1
   have m2':=Ne.symm m2
   repeat' first|refine wZ1 @FXs ?_|fail
   refine⟨q2,[],⟨m1,m2⟩,St.aB (St.aB (St.aB (St.none_le _) ?_) ?_) ?_⟩
   all_goals simp[St.set, *]
  ·obtain rfl:ex=[]:=List.eq_nil_of_length_eq_zero oM
   rw[hcap oM]
   clear hdr htk hdm hdn hcap hdel hik hF hg h hat h2 hd hc h0 h1
   refine⟨nl3,[],⟨n1,n2⟩,St.aB (St.aB (St.aB (St.none_le _) ?_) ?_) ?_⟩
   all_goals simp[St.set, *]
  ·have h40:ds.length=40:=by omega
   obtain⟨y,L',hcp,hL',hw⟩:=zI (t:=(⟨id,c.ver,sq⟩:DE)) h40
   rw[hcp]
   refine uX (aD _ _ _) (xN (ds.map DE.c++[[.int .i64 id,.int .i64 c.ver,.int .i64 sq]]++ex.drop 1) y L' oM oM ?_ ?_) fun q2 hq2=>?_
   ·rw[h40]
    exact hw _
   ·rw[h40]
    simp only[List.length_append,List.length_map,List.length_cons,List.length_nil,h40]
    omega
   clear hw hcp hdr htk hdm hdn hcap hdel hik hF hg h hat h2 hd hc h0 h1
   have m1:q2≠m:=fun e=>by subst e;simp[St.set,St.del, *] at hq2
   have m2:q2≠l:=fun e=>by subst e;simp[St.set,St.del, *] at hq2
   clear hq2
   have m1':=Ne.symm m1
   have m2':=Ne.symm m2
   repeat' first|refine wZ1 @FXs ?_|fail
   refine⟨q2,[],⟨m1,m2⟩,St.aB (St.aB (St.aB (St.none_le _) ?_) ?_) ?_⟩
   all_goals simp[St.set, *]
  ·rw[hcap oM]
   clear hdr htk hdm hdn hcap hdel hik hF hg h hat h2 hd hc h0 h1
   refine⟨nl3,ex.drop 1,⟨n1,n2⟩,St.aB (St.aB (St.aB (St.none_le _) ?_) ?_) ?_⟩
   all_goals simp[St.set, *]
end

section
theorem gJ{sq:Int}(l:Nat)(g:MV){b p:Nat}(hbp:b≠p)(G:List (List MV))(ids:List Int)(hl:ids.length≤1000000)(h0:0≤sq)(h1:sq≤1099511627776) :
  aA Tryz.prog 146 [.ptr b 0 0,.lst 2 G false,.int .i64 0,.vec 1 p 0 ids.length] ((St.none.set p (.row 3 1 (ids.map aP))).set b (bG sq l g)) (fun v σ'=>v=.tup [.lst 2 (dA sq ids) false,.int .i64 0]∧σ'=St.none.set b (bG (sq+ids.length) l (.lst 2 G false))):=by
 refine(mB 20 [.tmp 8,.tmp 9] Tryz.func146 ?_)
 have h:=qB l (.lst 2 G false) hbp ids h0 h1 hl
 have hpb:=Ne.symm hbp
 repeat' first|(refine dI h ?_)|refine wZ1 @Tryz.f146.eq_1 ?_|exact wC1 @Tryz.f146.eq_1|fail
theorem gI(b:Nat)(X Y:MV){e:Int}(he:e≠0):aA Tryz.prog 146 [.ptr b 0 0,X,.int .i64 e,Y] St.none (fun v _=>v=.tup [.aM,.int .i64 e]):=by
 refine(mB 20 [.tmp 8,.tmp 9] Tryz.func146 ?_)
 repeat' first|refine wZ1 @Tryz.f146.eq_1 ?_|exact wC1 @Tryz.f146.eq_1|fail
 all_goals first|rfl|(exfalso;omega)
abbrev grL(l:List GR):MV:=.lst 2 (l.map GR.c) false
theorem Em{sq:Int}(l b:Nat)(L:List GR)(h:GrF L)(g:Int)(h0:0≤sq)(h1:sq≤1099511627776)(h3:0≤g)(h4:g<16)(p:PA)(k i:Int) :
  aA Tryz.prog 72 [.ptr b 0 0,.agg (ED.mk k i g p).c] (St.none.set b (bG sq l (grL L))) (fun v σ'=>v=(if g∈L.map GR.no then .tup [.aM,.int .i64 7] else .tup [.lst 2 (dA sq [0]) false,.int .i64 0])∧σ'=St.none.set b (if g∈L.map GR.no then bG sq l (grL L) else bG (sq+1) l (grL (vY L g)))):=by
 have ho:=Kc L h.len (fun g hg=>by have:=h.mem g hg;omega) h.up g h3 h4 false
 by_cases hg:g∈L.map GR.no
 ·simp only[if_pos hg] at ho ⊢
  refine aA.less (Q':=fun v σ'=>v=.tup [.aM,.int .i64 7]∧(St.none.set b (bG sq l (grL L))).le σ') (mB 25 [.tmp 4,.tmp 5] Tryz.func72 ?_) fun v σ' h=>⟨_,h.2,h.1,rfl⟩
  have hr:=fun X Y=>gI b X Y (e:=7) (by decide)
  obtain⟨C,c1⟩:∃C:cD,∀ms,C 148 ms=some ⟨[],fun v=>v=.tup [.aM,.int .i64 7],none⟩:=⟨tG 148 (.tup [.aM,.int .i64 7]),fun _=>fO⟩
  repeat' first|((with_reducible refine aJ mixed ?chk C ?_);(case chk=>decide +kernel))|(with_reducible refine aH (c1 _) ho ?_)|(refine aC (hr _ _) ?_)|(refine wM ?_;(first|(have _:=nl2)|(have _:=nl1;intro nl2)|(intro nl1));intros)|refine wZ2 @Tryz.f72.eq_1 @FXs ?_|fail
  exact St.aB (St.none_le _) (by simp[St.set,St.del, *])
 ·simp only[if_neg hg] at ho ⊢
  refine aA.less (Q':=fun v σ'=>v=.tup [.lst 2 (dA sq [0]) false,.int .i64 0]∧(St.none.set b (bG (sq+1) l (grL (vY L g)))).le σ') (mB 25 [.tmp 4,.tmp 5] Tryz.func72 ?_) fun v σ' h=>⟨_,h.2,h.1,rfl⟩
  have hr:=fun {p:Nat} (hp:b≠p)=>gJ l (grL L) hp ((vY L g).map GR.c) [0] (by simp) h0 h1
  obtain⟨R,hR⟩:∃R,(vY L g).map GR.c=R:=⟨_,rfl⟩
  simp only[grL,hR] at ho hr ⊢
  obtain⟨C,c1⟩:∃C:cD,∀ms,C 148 ms=some ⟨[],fun v=>v=.tup [.lst 2 R false,.int .i64 0],none⟩:=⟨tG 148 (.tup [.lst 2 R false,.int .i64 0]),fun _=>fO⟩
  repeat' first|((with_reducible refine aJ mixed ?chk C ?_);(case chk=>decide +kernel))|(with_reducible refine aH (c1 _) ho ?_)|(refine wM ?_;(first|(have _:=nl2)|(have _:=nl1;intro nl2)|(intro nl1));intros)|refine wZ2 @Tryz.f72.eq_1 @FXs ?_|fail
  have n1:b≠nl2:=by assumption
  refine kR n1 (aD _ _ _) sS (hr n1) ?_
  repeat' first|refine wZ0 ?_|fail
  exact St.aB (St.none_le _) (by simp[St.set,St.del, *])
theorem En{sq:Int}(l b:Nat)(L:List GR)(h:GrF L)(g id:Int)(h0:0≤sq)(h1:sq≤1099511627776)(h3:0≤g)(h4:g<16)(h5:1≤id)(h6:id<1073741824)(p:PA)(k:Int) :
  aA Tryz.prog 75 [.ptr b 0 0,.agg (ED.mk k id g p).c] (St.none.set b (bG sq l (grL L))) (fun v σ'=>v=(if g∈L.map GR.no∧id∈bH L g then .tup [.lst 2 (dA sq [id]) false,.int .i64 0] else .tup [.aM,.int .i64 6])∧σ'=St.none.set b (if g∈L.map GR.no∧id∈bH L g then bG (sq+1) l (grL (eW L g (dF (bH L g) id))) else bG sq l (grL L))):=by
 have ho:=Hn L h g id h3 h4 h5 h6 false
 by_cases hg:g∈L.map GR.no∧id∈bH L g
 rotate_left
 ·have ho:aA Tryz.prog 153 [.lst 2 (L.map GR.c) false,.int .i64 g,.int .i64 id] St.none (fun r _=>r=.tup [.aM,.int .i64 6]):=by
   by_cases h1:g∈L.map GR.no
   ·by_cases h2:id∈bH L g
    ·exact absurd ⟨h1,h2⟩ hg
    ·simp only[if_pos h1,if_neg h2] at ho;exact ho
   ·simp only[if_neg h1] at ho;exact ho
  simp only[if_neg hg]
  refine aA.less (Q':=fun v σ'=>v=.tup [.aM,.int .i64 6]∧(St.none.set b (bG sq l (grL L))).le σ') (mB 29 [.tmp 4,.tmp 5] Tryz.func75 ?_) fun v σ' h=>⟨_,h.2,h.1,rfl⟩
  have hr:=fun X Y=>gI b X Y (e:=6) (by decide)
  obtain⟨C,c1⟩:∃C:cD,∀ms,C 153 ms=some ⟨[],fun v=>v=.tup [.aM,.int .i64 6],none⟩:=⟨tG 153 (.tup [.aM,.int .i64 6]),fun _=>fO⟩
  repeat' first|((with_reducible refine aJ mixed ?chk C ?_);(case chk=>decide +kernel))|(with_reducible refine aH (c1 _) ho ?_)|(refine aC (hr _ _) ?_)|(refine wM ?_;(first|(have _:=nl2)|(have _:=nl1;intro nl2)|(intro nl1));intros)|refine wZ2 @Tryz.f75.eq_1 @FXs ?_|fail
  exact St.aB (St.none_le _) (by simp[St.set,St.del, *])
 ·have e:=hg
  obtain⟨e1,e2⟩:=e
  simp only[if_pos e1,if_pos e2] at ho
  simp only[if_pos hg]
  refine aA.less (Q':=fun v σ'=>v=.tup [.lst 2 (dA sq [id]) false,.int .i64 0]∧(St.none.set b (bG (sq+1) l (grL (eW L g (dF (bH L g) id))))).le σ') (mB 29 [.tmp 4,.tmp 5] Tryz.func75 ?_) fun v σ' h=>⟨_,h.2,h.1,rfl⟩
  have hr:=fun {p:Nat} (hp:b≠p)=>gJ l (grL L) hp ((eW L g (dF (bH L g) id)).map GR.c) [id] (by simp) h0 h1
  obtain⟨R,hR⟩:∃R,(eW L g (dF (bH L g) id)).map GR.c=R:=⟨_,rfl⟩
  simp only[grL,hR] at ho hr ⊢
  obtain⟨C,c1⟩:∃C:cD,∀ms,C 153 ms=some ⟨[],fun v=>v=.tup [.lst 2 R false,.int .i64 0],none⟩:=⟨tG 153 (.tup [.lst 2 R false,.int .i64 0]),fun _=>fO⟩
  repeat' first|((with_reducible refine aJ mixed ?chk C ?_);(case chk=>decide +kernel))|(with_reducible refine aH (c1 _) ho ?_)|(refine wM ?_;(first|(have _:=nl2)|(have _:=nl1;intro nl2)|(intro nl1));intros)|refine wZ2 @Tryz.f75.eq_1 @FXs ?_|fail
  have n1:b≠nl2:=by assumption
  refine kR n1 (aD _ _ _) sS (hr n1) ?_
  repeat' first|refine wZ0 ?_|fail
  exact St.aB (St.none_le _) (by simp[St.set,St.del, *])
end

section
theorem BF{sq:Int}(l b:Nat)(L:List GR)(h:GrF L)(g:Int)(h3:0≤g)(h4:g<16)(hg:g∉L.map GR.no)(p:PA)(k i:Int) :
  aA Tryz.prog 73 [.ptr b 0 0,.agg (ED.mk k i g p).c] (St.none.set b (bG sq l (grL L))) (fun v σ'=>v=.tup [.aM,.int .i64 6]∧σ'=St.none.set b (bG sq l (grL L))):=by
 have hl:=h.len
 have ho:=xO L oM (fun g hg=>by have:=h.mem g hg;omega) h.up g h3 h4 false
 have hm:=J8 L oM h.up g false hg
 simp only[if_neg hg] at ho
 refine aA.less (Q':=fun v σ'=>v=.tup [.aM,.int .i64 6]∧(St.none.set b (bG sq l (grL L))).le σ') (mB 35 [.tmp 4,.tmp 5] Tryz.func73 ?_) fun v σ' h=>⟨_,h.2,h.1,rfl⟩
 have hr:=fun X Y=>gI b X Y (e:=6) (by decide)
 obtain⟨C,c1,c2⟩:=kw2 150 ⟨[],fun v=>v=.tup [.aM,.int .i64 6],none⟩ 149 ⟨[],fun v=>v=.aM,none⟩
 repeat' first|((with_reducible refine aJ mixed ?chk C ?_);(case chk=>decide +kernel))|(with_reducible refine aH (c1 _) ho ?_)|(with_reducible refine aH (c2 _) hm ?_)|(refine aC (hr _ _) ?_)|(refine wO ?_;intros)|refine wZ2 @Tryz.f73.eq_1 @FXs ?_|fail
 exact St.aB (St.none_le _) (by simp[St.set,St.del, *])
theorem BG{sq:Int}(l b:Nat)(L:List GR)(h:GrF L)(g:Int)(h0:0≤sq)(h1:sq≤1099511627776)(h3:0≤g)(h4:g<16)(hg:g∈L.map GR.no)(p:PA)(k i:Int) :
  aA Tryz.prog 73 [.ptr b 0 0,.agg (ED.mk k i g p).c] (St.none.set b (bG sq l (grL L))) (fun v σ'=>v=.tup [.lst 2 (dA sq (bH L g++[0])) false,.int .i64 0]∧σ'=St.none.set b (bG (sq+(bH L g++[0]).length) l (grL (mC L g)))):=by
 have hl:=h.len
 have ho:=xO L oM (fun g hg=>by have:=h.mem g hg;omega) h.up g h3 h4 false
 simp only[if_pos hg] at ho
 obtain⟨m1,m2⟩:=h.Qt g
 refine aA.less (Q':=fun v σ'=>v=.tup [.lst 2 (dA sq (bH L g++[0])) false,.int .i64 0]∧(St.none.set b (bG (sq+(bH L g++[0]).length) l (grL (mC L g)))).le σ') (mB 35 [.tmp 4,.tmp 5] Tryz.func73 ?_) fun v σ' h=>⟨_,h.2,h.1,rfl⟩
 obtain⟨R,hR⟩:∃R,(mC L g).map GR.c=R:=⟨_,rfl⟩
 have hr:=fun {p:Nat} (hp:b≠p)=>gJ l (grL L) hp R (bH L g++[0]) (by simp;omega) h0 h1
 simp only[grL,hR] at ho hr ⊢
 cases hM:bH L g with
 | nil =>
  have hm:=J9 L oM h.up g false hg hM
  rw[hM] at hr
  simp only[List.nil_append,List.map_cons,List.map_nil,List.length_cons,List.length_nil] at hr ⊢
  obtain⟨C,c1,c2⟩:=kw2 150 ⟨[],fun v=>v=.tup [.lst 2 R false,.int .i64 0],none⟩ 149 ⟨[],fun v=>v=.lst 1 [] true,none⟩
  repeat' first|((with_reducible refine aJ mixed ?chk C ?_);(case chk=>decide +kernel))|(with_reducible refine aH (c1 _) ho ?_)|(with_reducible refine aH (c2 _) hm ?_)|(refine wM ?_;(first|(have _:=nl3)|(have _:=nl2;intro nl3)|(have _:=nl1;intro nl2)|(intro nl1));intros)|refine wZ2 @Tryz.f73.eq_1 @FXs ?_|fail
  have n1:b≠nl3:=by assumption
  refine kR n1 (by simp[St.set, *];done) (by simp[St.set, *];done) (hr n1) ?_
  repeat' first|refine wZ0 ?_|fail
  exact St.aB (St.none_le _) (by simp[St.set,St.del, *])
 | cons x M =>
  rw[hM,List.length_cons] at m1
  have hm:=Ka L oM h.up g false hM oM
  rw[hM] at hr
  obtain⟨C,c1,c2⟩:=kw2 150 ⟨[],fun v=>v=.tup [.lst 2 R false,.int .i64 0],none⟩ 149 ⟨[],fun _=>True,some ([.row 3 1 ((x::M).map aP)],fun q=>.vec 1 q 0 (M.length+1))⟩
  have hml:((x::M).map aP).length=M.length+1:=by rw[List.length_map,List.length_cons]
  have hq:(x::M++[0]).map aP=(x::M).map aP++[[.int .i64 0]]:=by rw[List.map_append];rfl
  have hn:(x::M++[0]).length=M.length+1+1:=by simp
  rw[hq,hn] at hr
  rw[hn]
  generalize dA sq (x::M++[0])=Z at hr ⊢
  obtain⟨Y,hY⟩:∃Y,(x::M).map aP=Y:=⟨_,rfl⟩
  rw[hY] at hml hr hm
  simp only[hY] at c2
  repeat' first|((with_reducible refine aJ mixed ?chk C ?_);(case chk=>decide +kernel))|(with_reducible refine aH (c1 _) ho ?_)|((with_reducible refine PQ (c2 _) hm ?_;intro qq hqq;simp only[aV] at hqq;obtain⟨q1,q2,-⟩:=hqq;have q1':=Ne.symm q1;have q2':=Ne.symm q2))|(refine wM ?_;(first|(have _:=nl3)|(have _:=nl2;intro nl3)|(have _:=nl1;intro nl2)|(intro nl1));intros)|refine wZ3 @Tryz.f73.eq_1 @FXs @hml ?_|fail
  have n1:b≠nl3:=by assumption
  refine kR n1 (aD _ _ _) (by simp[St.set,St.del, *];done) (hr n1) ?_
  repeat' first|refine wZ0 ?_|fail
  exact St.aB (St.none_le _) (by simp[St.set,St.del, *])
end

section
theorem Ek{nx sq:Int}{m l q b:Nat}(D:dM m l q b)(cs:List CA)(ds:List DE)(hd:ds.length≤1000000)(ex:List (List MV))(L:List GR)(g id:Int)(p:PA)(k:Int)(he:(bB cs ds id).2≠0) :
  aA Tryz.prog 74 [.ptr b 0 0,.agg (ED.mk k id g p).c] (bkS m l q b ⟨sq,nx,cs,ds,L⟩ ex) (fun v σ'=>v=.tup [.aM,.int .i64 (bB cs ds id).2]∧σ'=bkS m l q b ⟨sq,nx,cs,ds,L⟩ ex):=by
 refine aA.less (Q':=fun v σ'=>v=.tup [.aM,.int .i64 (bB cs ds id).2]∧(bkS m l q b ⟨sq,nx,cs,ds,L⟩ ex).le σ') ?_ fun v σ' h=>⟨_,h.2,h.1,rfl⟩
 have hg:=iE nx D.lm D.qm D.ql cs ds hd ex id
 obtain⟨⟨c,e⟩,hce⟩:∃z,bB cs ds id=z:=⟨_,rfl⟩
 rw[hce] at hg he ⊢
 simp only[bkS,shS] at hg he ⊢
 have hg:aA Tryz.prog 151 [.ptr l 0 0,.int .i64 id] (St.ofList [q,l,m] [.row 197 3 (ds.map DE.c++ex),shO nx m (.vec 3 q 0 ds.length),.mp (cEs cs)]) (fun v σ'=>v=.tup [.agg c.c,.int .i64 e]∧σ'=St.ofList [q,l,m] [.row 197 3 (ds.map DE.c++ex),shO nx m (.vec 3 q 0 ds.length),.mp (cEs cs)]):=hg
 obtain⟨d1,d2,d3,d4,d5,d6⟩:=D
 have e1:=Ne.symm d1
 have e2:=Ne.symm d2
 have e3:=Ne.symm d3
 have e4:=Ne.symm d4
 have e5:=Ne.symm d5
 have e6:=Ne.symm d6
 refine(mB 44 [.tmp 4,.tmp 5] Tryz.func74 ?_)
 obtain⟨C,c1⟩:=kw1 151 ⟨[q,l,m],fun v=>v=.tup [.agg c.c,.int .i64 e],none⟩
 repeat' first|((with_reducible refine aJ mixed ?chk C ?_);(case chk=>decide +kernel))|(refine mO [q,l,m] [.row 197 3 (ds.map DE.c++ex),shO nx m (.vec 3 q 0 ds.length),.mp (cEs cs)] (c1 _) sS hg ?_)|(refine wO ?_;intros)|refine wZ4 @Tryz.f74.eq_1 @FXs @List.map_cons.{0,0} @List.map_nil.{0,0} ?_|fail
 all_goals (try (exfalso;omega))
 refine St.aB (St.aB (St.aB (St.aB (St.none_le _) ?_) ?_) ?_) ?_
 all_goals simp[St.set, *]
theorem El{nx sq:Int}{m l q b:Nat}(D:dM m l q b)(cs:List CA)(ds:List DE)(hd:ds.length≤1000000)(ex:List (List MV))(L:List GR)(h:GrF L)(g id:Int)(p:PA)(k:Int)(he:(bB cs ds id).2=0)(h0:0≤sq)(h1:sq≤1099511627776)(h3:0≤g)(h4:g<16)(h5:1≤id)(h6:id<1073741824) :
  aA Tryz.prog 74 [.ptr b 0 0,.agg (ED.mk k id g p).c] (bkS m l q b ⟨sq,nx,cs,ds,L⟩ ex) (fun v σ'=>v=(if g∈L.map GR.no then(if id∈bH L g then .tup [.aM,.int .i64 7] else .tup [.lst 2 (dA sq [id]) false,.int .i64 0]) else .tup [.aM,.int .i64 6]) ∧
   σ'=bkS m l q b (if g∈L.map GR.no∧id∉bH L g then⟨sq+1,nx,cs,ds,eW L g (jE (bH L g) id)⟩ else⟨sq,nx,cs,ds,L⟩) ex):=by
 have hj:=Hi L h g id h3 h4 h5 h6 false
 have hg:=iE nx D.lm D.qm D.ql cs ds hd ex id
 obtain⟨⟨c,e⟩,hce⟩:∃z,bB cs ds id=z:=⟨_,rfl⟩
 rw[hce] at hg he
 simp only at he
 subst he
 simp only[shS] at hg
 have hg:aA Tryz.prog 151 [.ptr l 0 0,.int .i64 id] (St.ofList [q,l,m] [.row 197 3 (ds.map DE.c++ex),shO nx m (.vec 3 q 0 ds.length),.mp (cEs cs)]) (fun v σ'=>v=.tup [.agg c.c,.int .i64 0]∧σ'=St.ofList [q,l,m] [.row 197 3 (ds.map DE.c++ex),shO nx m (.vec 3 q 0 ds.length),.mp (cEs cs)]):=hg
 obtain⟨d1,d2,d3,d4,d5,d6⟩:=D
 have e1:=Ne.symm d1
 have e2:=Ne.symm d2
 have e3:=Ne.symm d3
 have e4:=Ne.symm d4
 have e5:=Ne.symm d5
 have e6:=Ne.symm d6
 by_cases hgo:g∈L.map GR.no∧id∉bH L g
 ·simp only[if_pos hgo,if_pos hgo.1,if_neg hgo.2] at hj ⊢
  refine aA.less (Q':=fun v σ'=>v=.tup [.lst 2 (dA sq [id]) false,.int .i64 0]∧(bkS m l q b ⟨sq+1,nx,cs,ds,eW L g (jE (bH L g) id)⟩ ex).le σ') ?_ fun v σ' h=>⟨_,h.2,h.1,rfl⟩
  obtain⟨R,hR⟩:∃R,(eW L g (jE (bH L g) id)).map GR.c=R:=⟨_,rfl⟩
  have hr:=fun {p:Nat} (hp:b≠p)=>gJ (sq:=sq) l (grL L) hp R [id] (by simp) h0 h1
  simp only[bkS,shS,grL,hR] at hj hr ⊢
  obtain⟨C,c1,c2⟩:=kw2 151 ⟨[q,l,m],fun v=>v=.tup [.agg c.c,.int .i64 0],none⟩ 152 ⟨[],fun v=>v=.tup [.lst 2 R false,.int .i64 0],none⟩
  clear hgo
  generalize dA sq [id]=Z at hr ⊢
  refine(mB 44 [.tmp 4,.tmp 5] Tryz.func74 ?_)
  repeat' first|((with_reducible refine aJ mixed ?chk C ?_);(case chk=>decide +kernel))|(refine mO [q,l,m] [.row 197 3 (ds.map DE.c++ex),shO nx m (.vec 3 q 0 ds.length),.mp (cEs cs)] (c1 _) sS hg ?_)|(with_reducible refine aH (c2 _) hj ?_)|(refine wM ?_;(first|(have _:=nl3)|(have _:=nl2;intro nl3)|(have _:=nl1;intro nl2)|(intro nl1));intros)|refine wZ4 @Tryz.f74.eq_1 @FXs @List.map_cons.{0,0} @List.map_nil.{0,0} ?_|fail
  have n1:b≠nl3:=by assumption
  refine kR n1 (aD _ _ _) sS (hr n1) ?_
  repeat' first|refine wZ0 ?_|fail
  refine St.aB (St.aB (St.aB (St.aB (St.none_le _) ?_) ?_) ?_) ?_
  all_goals simp[St.set,St.del, *]
 ·obtain⟨e,he,hj⟩:∃e:Int,e≠0∧aA Tryz.prog 152 [.lst 2 (L.map GR.c) false,.int .i64 g,.int .i64 id] St.none (fun r _=>r=.tup [.aM,.int .i64 e])∧(if g∈L.map GR.no then(if id∈bH L g then .tup [.aM,.int .i64 7] else .tup [.lst 2 (dA sq [id]) false,.int .i64 0]) else .tup [.aM,.int .i64 6])=MV.tup [.aM,.int .i64 e]:=by
   by_cases h1:g∈L.map GR.no
   ·have h2:id∈bH L g:=Classical.byContradiction fun h=>hgo ⟨h1,h⟩
    simp only[if_pos h1,if_pos h2] at hj ⊢
    exact⟨7,by decide,hj,rfl⟩
   ·simp only[if_neg h1] at hj ⊢
    exact⟨6,by decide,hj,rfl⟩
  obtain⟨hj,hv⟩:=hj
  rw[hv,if_neg hgo]
  refine aA.less (Q':=fun v σ'=>v=.tup [.aM,.int .i64 e]∧(bkS m l q b ⟨sq,nx,cs,ds,L⟩ ex).le σ') ?_ fun v σ' h=>⟨_,h.2,h.1,rfl⟩
  have hr:=fun X Y=>gI b X Y he
  simp only[bkS,shS]
  obtain⟨C,c1,c2⟩:=kw2 151 ⟨[q,l,m],fun v=>v=.tup [.agg c.c,.int .i64 0],none⟩ 152 ⟨[],fun v=>v=.tup [.aM,.int .i64 e],none⟩
  clear hgo hv
  refine(mB 44 [.tmp 4,.tmp 5] Tryz.func74 ?_)
  repeat' first|((with_reducible refine aJ mixed ?chk C ?_);(case chk=>decide +kernel))|(refine mO [q,l,m] [.row 197 3 (ds.map DE.c++ex),shO nx m (.vec 3 q 0 ds.length),.mp (cEs cs)] (c1 _) sS hg ?_)|(with_reducible refine aH (c2 _) hj ?_)|(refine aC (hr _ _) ?_)|(refine wM ?_;(first|(have _:=nl3)|(have _:=nl2;intro nl3)|(have _:=nl1;intro nl2)|(intro nl1));intros)|refine wZ4 @Tryz.f74.eq_1 @FXs @List.map_cons.{0,0} @List.map_nil.{0,0} ?_|fail
  all_goals (try (exfalso;omega))
  refine St.aB (St.aB (St.aB (St.aB (St.none_le _) ?_) ?_) ?_) ?_
  all_goals simp[St.set,St.del, *]
end
end Go.Proofs.YtppdgejjmhdjhaaGreatDoor
