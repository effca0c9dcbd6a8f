/- Parts of the proof; conditions: as its theorems name them. -/
import Derived.Test.YtppdgejjmhdjhaaGreatDoorMao
import Derived.Test.YtppdgejjmhdjhaaGreatDoorMap
set_option linter.unusedVariables false
set_option linter.unusedSimpArgs false
set_option maxHeartbeats 8000000
set_option maxRecDepth 100000
namespace Go.Proofs.YtppdgejjmhdjhaaGreatDoor
section
theorem jP:∀(l:List TU) (x:TU) (id:Int),fS (l++[x]) id=if x.id=id then some x.new else fS l id
 | [],x,id=>by simp[fS]
 | t::l,x,id=>by
  rw[List.cons_append,fS,jP l x id,fS]
  by_cases h:x.id=id
  ·rw[if_pos h,if_pos h]
  ·rw[if_neg h,if_neg h]
end

section
def SuF(l:List SU):Prop:=∀x,x∈l→x.fl.length≤1000000∧x.mem.length≤1000000∧x.log.length≤1000000
end

section
structure SaF (s:SA):Prop where
 nc:s.bk.cards.length≤1000000
 nd:s.bk.dead.length≤1000000
 ng:s.bk.gr.length≤1000000
 nm:∀g,g∈s.bk.gr→g.mem.length≤1000000
 ns:s.subs.length≤1000000
 sf:SuF s.subs
 nr:s.rows.length≤1000000
 nf:∀r,r∈s.rows→r.ans.fl.length≤1000000
end

section
theorem J0(l:List ND)(hl:l.length≤1000000)(tt:Bool)(h:cR l=0):aA Tryz.prog 62 [.lst 5 (l.map ND.c) tt] St.none (fun v σ'=>∃q,v=.ptr q 0 0∧σ'=St.none.set q (flO (.lst 5 (l.map ND.c) false) 0 0 .nilfn)):=by
 refine(mB 10 [.tmp 2] Tryz.func62 ?_)
 have c1:=Er l hl tt
 have c2:=Fi l hl tt
 rw[h] at c1
 repeat' first|(with_reducible first|refine up c1 ?_|refine up c2 ?_)|(refine wO ?_;intros)|refine wZ1 @Tryz.f62.eq_1 ?_|fail
 all_goals exact⟨_,rfl,rfl⟩
theorem HR(d:DE)(id:Int):aA Tryz.prog 222 [.agg d.c,.cptr [.int .i64 id]] St.none (fun r _=>r=.bool (decide (d.id=id))):=by
 refine aA.bS (mB 8 [.tmp 3] Tryz.func222 ?_)
 repeat' first|(refine wO ?_;intros)|refine wZ1 @Tryz.f222.eq_1 ?_|fail
 all_goals exact lE
theorem FN(l:List DE)(hl:l.length≤1000000)(t:Bool)(id:Int) :
  aA Tryz.prog 271 [.lst 3 (l.map DE.c) t,.fn (.func 222) [] [.cptr [.int .i64 id]]] St.none (fun r _=>r=.int .i64 (qA (l.map DE.id) id)):=by
 refine aA.bS (mB 19 [.tmp 4] Tryz.func271 ?_)
 repeat' first|refine wZ1 @Tryz.f271.eq_1 ?_|fail
 refine aF (α:=Nat) (fun k=>⟨19,[(8,.int .i64 (k:Int)),(7,.int .i64 (l.length:Int)),(6,.lst 3 (l.map DE.c) t),(0,.lst 3 (l.map DE.c) t),(1,.fn (.func 222) [] [.cptr [.int .i64 id]])],[]⟩) (fun _=>St.none)
  (fun k=>k≤l.length∧id∉(l.take k).map DE.id) (fun k=>l.length - k) (.of (.less ?_ (St.le_refl _)) ⟨0,rfl,rfl,Nat.zero_le _,by simp⟩) ?_
 ·exact wW
 ·rintro k ⟨h1,h2⟩
  by_cases hk:k<l.length
  ·obtain⟨d,hd⟩:=bU l hk
   have hat:=bN (f:=DE.c) hd
   have hc:=HR d id
   by_cases he:d.id=id
   ·rw[decide_eq_true he] at hc
    have hi':=Vk (P5 (f:=DE.id) hd) (by rw[he,←List.map_take];exact h2)
    have hm:=dY (P5 (f:=DE.id) hd)
    rw[he] at hi' hm
    have hp:qA (l.map DE.id) id=k:=by unfold qA;rw[if_pos hm,hi']
    rw[hp]
    repeat' first|(with_reducible first|refine up hc ?_)|refine wZ1 @hat ?_|fail
    all_goals exact lE
   ·rw[decide_eq_false he] at hc
    repeat' first|(with_reducible first|refine up hc ?_)|refine wZ1 @hat ?_|fail
    refine .of (.less ?_ (St.le_refl _)) ⟨k+1,rfl,rfl,⟨by omega,?_⟩,by omega⟩
    ·exact wW
    ·rw[aZ hd,List.map_append,List.mem_append]
     simpa using⟨by simpa using h2,Ne.symm he⟩
  ·have:k=l.length:=by omega
   subst this
   rw[List.take_length] at h2
   have hp:qA (l.map DE.id) id = -1:=by unfold qA;rw[if_neg h2]
   rw[hp]
   repeat' first|refine wZ0 ?_|fail
   all_goals exact lE
theorem zO(l:List DE)(hl:l.length≤1000000)(t:Bool)(id:Int) :
  aA Tryz.prog 221 [.lst 3 (l.map DE.c) t,.fn (.func 222) [] [.cptr [.int .i64 id]]] St.none (fun r _=>r=.bool (decide (id∈l.map DE.id))):=by
 refine aA.bS (mB 9 [.tmp 4] Tryz.func221 ?_)
 have hi:=FN l hl t id
 have hn:=J6 (l:=l.map DE.id) (x:=id)
 obtain⟨k,hk⟩:∃k,qA (l.map DE.id) id=k:=⟨_,rfl⟩
 rw[hk] at hi hn
 have e:decide (id∈l.map DE.id)=decide (0≤k):=decide_eq_decide.mpr ⟨fun h=>by
  have:¬k<0:=fun h'=>(hn ▸ h') h
  omega,fun h=>Classical.not_not.1 fun h'=>by
  have:k<0:=hn ▸ h'
  omega⟩
 rw[e]
 repeat' first|(with_reducible first|refine up hi ?_)|refine wZ1 @Tryz.f221.eq_1 ?_|fail
 all_goals first|exact⟨_,St.le_refl _,rfl⟩|exact⟨_,St.le_refl _⟩|(refine⟨_,St.le_refl _,?_⟩;simp[*])
end

section
def bB(cs:List CA)(ds:List DE)(id:Int):CA × Int :=
 match cs.find? (fun c=>decide (c.id=id)) with
 | some c=>(c,0)
 | none=>(ca0,if id∈ds.map DE.id then 9 else 6)
theorem Cs{id:Int}:∀cs:List CA,dQ id (cEs cs)=(cs.find? fun c=>decide (c.id=id)).map fun c=>.agg c.c
 | []=>rfl
 | c::cs=>by
  have ih:=Cs (id:=id) cs
  simp only[cEs,List.map_cons,dQ,List.find?_cons] at ih ⊢
  by_cases h:c.id=id
  ·simp[h]
  ·simp[h,ih]
abbrev shS(nx:Int)(m l q:Nat)(cs:List CA)(ds:List DE)(ex:List (List MV)):St:=((St.none.set m (.mp (cEs cs))).set l (shO nx m (.vec 3 q 0 ds.length))).set q (.row 197 3 (ds.map DE.c++ex))
theorem iE(nx:Int){m l q:Nat}(hlm:l≠m)(hqm:q≠m)(hql:q≠l)(cs:List CA)(ds:List DE)(hd:ds.length≤1000000)(ex:List (List MV))(id:Int) :
  aA Tryz.prog 151 [.ptr l 0 0,.int .i64 id] (shS nx m l q cs ds ex) (fun v σ'=>v=.tup [.agg (bB cs ds id).1.c,.int .i64 (bB cs ds id).2]∧σ'=shS nx m l q cs ds ex):=by
 refine aA.less (Q':=fun v σ'=>v=.tup [.agg (bB cs ds id).1.c,.int .i64 (bB cs ds id).2]∧(shS nx m l q cs ds ex).le σ') (mB 30 [.cell 4 126,.tmp 5] Tryz.func151 ?_) fun v σ' h=>⟨_,h.2,h.1,rfl⟩
 have hall:=qV cs
 have hg:=Cs (id:=id) cs
 have hml:=Ne.symm hlm
 have hmq:=Ne.symm hqm
 have hlq:=Ne.symm hql
 have hc:=zO ds hd false id
 have hle:∀{σ:St},σ m=some (.mp (cEs cs))→σ l=some (shO nx m (.vec 3 q 0 ds.length))→σ q=some (.row 197 3 (ds.map DE.c++ex))→(shS nx m l q cs ds ex).le σ:=fun h1 h2 h3=>St.aB (St.aB (St.aB (St.none_le _) h1) h2) h3
 unfold bB
 show R (dN Tryz.prog _ _ (((St.none.set m (.mp (cEs cs))).set l (shO nx m (.vec 3 q 0 ds.length))).set q (.row 197 3 (ds.map DE.c++ex))) _)
 cases hf:cs.find? (fun c=>decide (c.id=id)) with
 | some c =>
  rw[hf,Option.map_some] at hg
  simp only
  repeat' first|(refine wM ?_;(first|(have _:=nl1)|(intro nl1));intros)|refine wV ?_|refine wZ8 @Tryz.f151.eq_1 @Option.getD_some.{0} @Option.getD_none.{0} @Option.isSome_some.{0} @Option.isSome_none.{0} @FYs @hg @hall ?_|fail
  all_goals first|exact hle sS sS sS|exact⟨rfl,hle sS sS sS⟩
 | none =>
  rw[hf,Option.map_none] at hg
  simp only
  have hv:∀{σ:St} {b:Nat},σ b=some (.row 3 1 [[.int .i64 id]])→σ q=some (.row 197 3 (ds.map DE.c++ex))→∀(i:Nat) (x x':MV),[MV.vec 3 q 0 ds.length,.fn (.func 222) [] [.ptr b 0 0]][i]?=some x→[MV.lst 3 (ds.map DE.c) false,.fn (.func 222) [] [.cptr [.int .i64 id]]][i]?=some x'→View σ x x':=fun h1 h2 =>
   rF (fN h2 (by simp)) (.fn rfl (xD (View.ptr (i:=0) (o:=0) h1 (by simp))))
  by_cases hm:id∈ds.map DE.id
  ·rw[decide_eq_true hm] at hc
   rw[if_pos hm]
   repeat' first|(refine uW [.lst 3 (ds.map DE.c) false,.fn (.func 222) [] [.cptr [.int .i64 id]]] hc (by constructor) rfl (hv (b:=nl1) sS sS) ?_)|(refine wM ?_;(first|(have _:=nl1)|(intro nl1));intros)|refine wV ?_|refine wZ8 @Tryz.f151.eq_1 @Option.getD_some.{0} @Option.getD_none.{0} @Option.isSome_some.{0} @Option.isSome_none.{0} @FYs @hg @hall ?_|fail
   all_goals first|exact hle sS sS sS|exact⟨rfl,hle sS sS sS⟩
  ·rw[decide_eq_false hm] at hc
   rw[if_neg hm]
   repeat' first|(refine uW [.lst 3 (ds.map DE.c) false,.fn (.func 222) [] [.cptr [.int .i64 id]]] hc (by constructor) rfl (hv (b:=nl1) sS sS) ?_)|(refine wM ?_;(first|(have _:=nl1)|(intro nl1));intros)|refine wV ?_|refine wZ8 @Tryz.f151.eq_1 @Option.getD_some.{0} @Option.getD_none.{0} @Option.isSome_some.{0} @Option.isSome_none.{0} @FYs @hg @hall ?_|fail
   all_goals first|exact hle sS sS sS|exact⟨rfl,hle sS sS sS⟩
end

section
theorem FO{c:CA}:∀{cs:List CA},c.id∉cs.map CA.id→dG .i64 c.id (.agg c.c) (cEs cs)=cEs (cs++[c])
 | [],_=>rfl
 | d::cs,h=>by
  simp only[List.map_cons,List.mem_cons,not_or] at h
  have ih:=FO h.2
  simp only[cEs,List.map_cons,List.cons_append,dG] at ih ⊢
  rw[if_neg (Ne.symm h.1),ih]
end

section
theorem bA.Cp{n:Nat}{l l1:List (Nat × MV)}{d:List (FuncId × List MV)}{σ σ1:St}(q b:Nat){oq:aT}{t:TypeId}{e:Nat}(pre post:List MV){m m1:MV}(hq:σ q=some oq)(hb:σ b=some (.row t e [pre++m::post]))(hne:b≠q)(hv:View (St.none.set q oq) m m1)(hc:m1.aL=true)
 (h1:σ1 b=some (.row t e [pre++m1::post]))(h0:∀k o,σ1 k=some o→k≠q∧(k=b∨σ k=some o))(hl:∀p,p∈l1→View (St.none.set q oq) (cQ l p.1) p.2):bA ⟨n,l,d⟩ σ ⟨n,l1,d⟩ σ1:=by
 refine bA.tJ (St.none.set q oq) (St.aB (St.none_le _) hq) (fun k o1 hk=>?_) (fun k o hk=>?_) hl
 ·by_cases e':k=b
  ·subst e'
   rw[h1] at hk
   cases hk
   refine⟨_,hb,.inr ⟨t,e,_,_,rfl,rfl,rfl,fun i x x1 hx hx1=>?_⟩⟩
   match i with
   | 0 =>
    simp only[List.getElem?_cons_zero,Option.some.injEq] at hx hx1
    subst hx hx1
    refine⟨by simp,fun j a b ha hb=>?_⟩
    by_cases hj:j<pre.length
    ·rw[List.getElem?_append_left hj] at ha hb
     rw[ha] at hb;cases hb
     exact .inl rfl
    ·rw[List.getElem?_append_right oM] at ha hb
     match hk:j - pre.length with
     | 0 =>
      rw[hk] at ha hb
      simp only[List.getElem?_cons_zero,Option.some.injEq] at ha hb
      subst ha hb
      exact .inr ⟨hc,hv⟩
     | k+1 =>
      rw[hk] at ha hb
      simp only[List.getElem?_cons_succ] at ha hb
      rw[ha] at hb;cases hb
      exact .inl rfl
   | i+1=>simp at hx
  ·exact⟨_,(h0 k _ hk).2.resolve_left e',.inl rfl⟩
 ·by_cases e':k=b
  ·subst e';exact aG _ _ _ _ hne
  ·exact aG _ _ _ _ (h0 k _ hk).1
abbrev bkS(m l q b:Nat)(B:BK)(ex:List (List MV)):St:=(shS B.nx m l q B.cards B.dead ex).set b (bG B.sq l (.lst 2 (B.gr.map GR.c) false))
structure dM (m l q b:Nat):Prop where
 lm:l≠m
 qm:q≠m
 ql:q≠l
 bm:b≠m
 bl:b≠l
 bq:b≠q
theorem aV{σ:St}{l k:Nat}{o:aT}:((σ.set l o) k=none)=(k≠l∧σ k=none):=propext ⟨yW,fun h=>(aG _ _ _ _ h.1).trans h.2⟩
end
end Go.Proofs.YtppdgejjmhdjhaaGreatDoor
