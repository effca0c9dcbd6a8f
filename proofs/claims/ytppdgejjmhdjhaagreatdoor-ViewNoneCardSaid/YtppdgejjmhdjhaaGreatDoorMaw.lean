/- Parts of the proof, joined; conditions: those that its theorems name. -/
import Derived.Test.YtppdgejjmhdjhaaGreatDoorMau
import Derived.Test.YtppdgejjmhdjhaaGreatDoorMav
set_option linter.unusedVariables false
set_option linter.unusedSimpArgs false
set_option maxHeartbeats 4000000
namespace Go.Proofs.YtppdgejjmhdjhaaGreatDoor
section
set_option maxRecDepth 100000
set_option maxHeartbeats 8000000
def SuF(l:List SU):Prop:=∀x,x∈l→x.fl.length≤1000000∧x.mem.length≤1000000∧x.log.length≤1000000
end

section
set_option maxRecDepth 100000
set_option maxHeartbeats 8000000
structure SaF (s:SA):Prop where
 nc:s.bk.cards.length≤1000000
 nd:s.bk.dead.length≤1000000
 ng:s.bk.gr.length≤1000000
 nm:∀g,g∈s.bk.gr→g.mem.length≤1000000
 ns:s.subs.length≤1000000
 sf:SuF s.subs
 nr:s.rows.length≤1000000
 nf:∀r,r∈s.rows→r.ans.fl.length≤1000000
end

section
set_option maxRecDepth 100000
set_option maxHeartbeats 8000000
theorem Bw(l:List ND)(hl:l.length≤1000000)(tt:Bool)(h:cD l=0):aA Tryz.prog 62 [.lst 5 (l.map ND.c) tt] St.none (fun v σ'=>∃q,v=.ptr q 0 0∧σ'=St.none.set q (flO (.lst 5 (l.map ND.c) false) 0 0 .nilfn)):=by
 refine(aA.body 10 [.tmp 2] Tryz.func62 rfl rfl rfl rfl ?_)
 have c1:=vF l hl tt
 have c2:=wC l hl tt
 rw[h] at c1
 repeat' (first|(with_reducible first|refine up c1 ?_|refine up c2 ?_)|(with_reducible first|(refine wN fun _ hnl=>?_;revert hnl;(repeat refine wS fun _ _=>?_);intro hnl)|refine wE ?_|(refine wK ?_ ?_<;>intro h)|(refine wB ?_ ?_<;>intro h<;>simp only[h]))|simp(maxSteps:=4000000) (disch:=first|decide|assumption|omega|(simp only[wL];omega)) only[go_sem,simprocAttr,Tryz.f62])
 all_goals exact⟨_,rfl,rfl⟩
theorem zS(d:DE)(id:Int):aA Tryz.prog 222 [.agg d.c,.cptr [.int .i64 id]] St.none (fun r _=>r=.bool (decide (d.id=id))):=by
 refine aA.dF (aA.body 8 [.tmp 3] Tryz.func222 rfl rfl rfl rfl ?_)
 repeat' (first|(with_reducible first|(refine wN fun _ hnl=>?_;revert hnl;(repeat refine wS fun _ _=>?_);intro hnl)|refine wE ?_|(refine wK ?_ ?_<;>intro h)|(refine wB ?_ ?_<;>intro h<;>simp only[h]))|simp(maxSteps:=4000000) (disch:=first|decide|assumption|omega|(simp only[wL];omega)) only[go_sem,simprocAttr,Tryz.f222])
 all_goals first|exact⟨_,St.le_refl _,rfl⟩|exact⟨_,St.le_refl _⟩
theorem xK(l:List DE)(hl:l.length≤1000000)(t:Bool)(id:Int) :
  aA Tryz.prog 271 [.lst 3 (l.map DE.c) t,.fn (.func 222) [] [.cptr [.int .i64 id]]] St.none (fun r _=>r=.int .i64 (kH (l.map DE.id) id)):=by
 refine aA.dF (aA.body 19 [.tmp 4] Tryz.func271 rfl rfl rfl rfl ?_)
 repeat' (first|(with_reducible first|(refine wN fun _ hnl=>?_;revert hnl;(repeat refine wS fun _ _=>?_);intro hnl)|refine wE ?_|(refine wK ?_ ?_<;>intro h)|(refine wB ?_ ?_<;>intro h<;>simp only[h]))|simp(maxSteps:=4000000) (disch:=first|decide|assumption|omega|(simp only[wL];omega)) only[go_sem,simprocAttr,Tryz.f271])
 refine aV (α:=Nat) (fun k=>⟨19,[(8,.int .i64 (k:Int)),(7,.int .i64 (l.length:Int)),(6,.lst 3 (l.map DE.c) t),(0,.lst 3 (l.map DE.c) t),(1,.fn (.func 222) [] [.cptr [.int .i64 id]])],[]⟩) (fun _=>St.none)
  (fun k=>k≤l.length∧id∉(l.take k).map DE.id) (fun k=>l.length - k) (.of (.less ?_ (St.le_refl _)) ⟨0,rfl,rfl,Nat.zero_le _,by simp⟩) ?_
 ·simp(maxSteps:=4000000) (disch:=first|decide|assumption|omega|(simp only[wL];omega)) only[go_sem,simprocAttr,aJ,aG]
  all_goals rfl
 ·rintro k ⟨h1,h2⟩
  by_cases hk:k<l.length
  ·obtain⟨d,hd⟩:=iK l hk
   have hat:=nB (f:=DE.c) hd
   have hc:=zS d id
   by_cases he:d.id=id
   ·rw[decide_eq_true he] at hc
    have hi':=JR (FW (f:=DE.id) hd) (by rw[he,←List.map_take];exact h2)
    have hm:=jG (FW (f:=DE.id) hd)
    rw[he] at hi' hm
    have hp:kH (l.map DE.id) id=k:=by unfold kH;rw[if_pos hm,hi']
    rw[hp]
    repeat' (first|(with_reducible first|refine up hc ?_)|(with_reducible first|(refine wN fun _ hnl=>?_;revert hnl;(repeat refine wS fun _ _=>?_);intro hnl)|refine wE ?_|(refine wK ?_ ?_<;>intro h)|(refine wB ?_ ?_<;>intro h<;>simp only[h]))|simp(maxSteps:=4000000) (disch:=first|decide|assumption|omega|(simp only[wL];omega)) only[go_sem,simprocAttr,hat])
    all_goals first|exact⟨_,St.le_refl _,rfl⟩|exact⟨_,St.le_refl _⟩
   ·rw[decide_eq_false he] at hc
    repeat' (first|(with_reducible first|refine up hc ?_)|(with_reducible first|(refine wN fun _ hnl=>?_;revert hnl;(repeat refine wS fun _ _=>?_);intro hnl)|refine wE ?_|(refine wK ?_ ?_<;>intro h)|(refine wB ?_ ?_<;>intro h<;>simp only[h]))|simp(maxSteps:=4000000) (disch:=first|decide|assumption|omega|(simp only[wL];omega)) only[go_sem,simprocAttr,hat])
    refine .of (.less ?_ (St.le_refl _)) ⟨k+1,rfl,rfl,⟨by omega,?_⟩,by omega⟩
    ·simp(maxSteps:=4000000) (disch:=first|decide|assumption|omega|(simp only[wL];omega)) only[go_sem,simprocAttr,aJ,aG]
     all_goals rfl
    ·rw[cQ hd,List.map_append,List.mem_append]
     simpa using⟨by simpa using h2,Ne.symm he⟩
  ·have:k=l.length:=by omega
   subst this
   rw[List.take_length] at h2
   have hp:kH (l.map DE.id) id = -1:=by unfold kH;rw[if_neg h2]
   rw[hp]
   repeat' (first|(with_reducible first|(refine wN fun _ hnl=>?_;revert hnl;(repeat refine wS fun _ _=>?_);intro hnl)|refine wE ?_|(refine wK ?_ ?_<;>intro h)|(refine wB ?_ ?_<;>intro h<;>simp only[h]))|simp(maxSteps:=4000000) (disch:=first|decide|assumption|omega|(simp only[wL];omega)) only[go_sem,simprocAttr])
   all_goals first|exact⟨_,St.le_refl _,rfl⟩|exact⟨_,St.le_refl _⟩
theorem pH(l:List DE)(hl:l.length≤1000000)(t:Bool)(id:Int) :
  aA Tryz.prog 221 [.lst 3 (l.map DE.c) t,.fn (.func 222) [] [.cptr [.int .i64 id]]] St.none (fun r _=>r=.bool (decide (id∈l.map DE.id))):=by
 refine aA.dF (aA.body 9 [.tmp 4] Tryz.func221 rfl rfl rfl rfl ?_)
 have hi:=xK l hl t id
 have hn:=By (l:=l.map DE.id) (x:=id)
 obtain⟨k,hk⟩:∃k,kH (l.map DE.id) id=k:=⟨_,rfl⟩
 rw[hk] at hi hn
 have e:decide (id∈l.map DE.id)=decide (0≤k):=decide_eq_decide.mpr ⟨fun h=>by
  have:¬k<0:=fun h'=>(hn ▸ h') h
  omega,fun h=>Classical.not_not.1 fun h'=>by
  have:k<0:=hn ▸ h'
  omega⟩
 rw[e]
 repeat' (first|(with_reducible first|refine up hi ?_)|(with_reducible first|(refine wN fun _ hnl=>?_;revert hnl;(repeat refine wS fun _ _=>?_);intro hnl)|refine wE ?_|(refine wK ?_ ?_<;>intro h)|(refine wB ?_ ?_<;>intro h<;>simp only[h]))|simp(maxSteps:=4000000) (disch:=first|decide|assumption|omega|(simp only[wL];omega)) only[go_sem,simprocAttr,Tryz.f221])
 all_goals first|exact⟨_,St.le_refl _,rfl⟩|exact⟨_,St.le_refl _⟩|(refine⟨_,St.le_refl _,?_⟩;simp[*])
end

section
set_option maxRecDepth 100000
set_option maxHeartbeats 8000000
def eZ(cs:List CA)(ds:List DE)(id:Int):CA × Int :=
 match cs.find? (fun c=>decide (c.id=id)) with
 | some c=>(c,0)
 | none=>(ca0,if id∈ds.map DE.id then 9 else 6)
theorem sX{id:Int}:∀cs:List CA,dJ id (cEs cs)=(cs.find? fun c=>decide (c.id=id)).map fun c=>.agg c.c
 | []=>rfl
 | c::cs=>by
  have ih:=sX (id:=id) cs
  simp only[cEs,List.map_cons,dJ,List.find?_cons] at ih ⊢
  by_cases h:c.id=id
  ·simp[h]
  ·simp[h,ih]
abbrev shS(nx:Int)(m l q:Nat)(cs:List CA)(ds:List DE)(ex:List (List MV)):St:=((St.none.set m (.mp (cEs cs))).set l (shO nx m (.vec 3 q 0 ds.length))).set q (.row 197 3 (ds.map DE.c++ex))
theorem qX(nx:Int){m l q:Nat}(hlm:l≠m)(hqm:q≠m)(hql:q≠l)(cs:List CA)(ds:List DE)(hd:ds.length≤1000000)(ex:List (List MV))(id:Int) :
  aA Tryz.prog 151 [.ptr l 0 0,.int .i64 id] (shS nx m l q cs ds ex) (fun v σ'=>v=.tup [.agg (eZ cs ds id).1.c,.int .i64 (eZ cs ds id).2]∧σ'=shS nx m l q cs ds ex):=by
 refine aA.less (Q':=fun v σ'=>v=.tup [.agg (eZ cs ds id).1.c,.int .i64 (eZ cs ds id).2]∧(shS nx m l q cs ds ex).le σ') (aA.body 30 [.cell 4 126,.tmp 5] Tryz.func151 rfl rfl rfl rfl ?_) fun v σ' h=>⟨_,h.2,h.1,rfl⟩
 have hall:=mE cs
 have hg:=sX (id:=id) cs
 have hml:=Ne.symm hlm
 have hmq:=Ne.symm hqm
 have hlq:=Ne.symm hql
 have hc:=pH ds hd false id
 have hle:∀{σ:St},σ m=some (.mp (cEs cs))→σ l=some (shO nx m (.vec 3 q 0 ds.length))→σ q=some (.row 197 3 (ds.map DE.c++ex))→(shS nx m l q cs ds ex).le σ:=fun h1 h2 h3=>St.aC (St.aC (St.aC (St.none_le _) h1) h2) h3
 unfold eZ
 show R (b9 Tryz.prog _ _ (((St.none.set m (.mp (cEs cs))).set l (shO nx m (.vec 3 q 0 ds.length))).set q (.row 197 3 (ds.map DE.c++ex))) _)
 cases hf:cs.find? (fun c=>decide (c.id=id)) with
 | some c =>
  rw[hf,Option.map_some] at hg
  simp only
  repeat' (first|(with_reducible first|(refine wT ?_;(first|((fail_if_success (have:=nl1));refine wN fun nl1 hnl=>?_)|refine wN fun _ hnl=>?_);revert hnl;(repeat refine wS fun _ _=>?_);intro hnl)|refine wE ?_|(refine wK ?_ ?_<;>intro h)|(refine wB ?_ ?_<;>intro h<;>simp only[h]))|simp(maxSteps:=4000000) (disch:=first|exact ddL|fail) only[go_sem,simprocAttr,Tryz.f151,Option.getD_some,Option.getD_none,Option.isSome_some,Option.isSome_none,FYs,hg,hall])
  all_goals first|exact hle (by simp[St.set, *]) (by simp[St.set, *]) (by simp[St.set, *])|exact⟨rfl,hle (by simp[St.set, *]) (by simp[St.set, *]) (by simp[St.set, *])⟩
 | none =>
  rw[hf,Option.map_none] at hg
  simp only
  have hv:∀{σ:St} {b:Nat},σ b=some (.row 3 1 [[.int .i64 id]])→σ q=some (.row 197 3 (ds.map DE.c++ex))→∀(i:Nat) (x x':MV),[MV.vec 3 q 0 ds.length,.fn (.func 222) [] [.ptr b 0 0]][i]?=some x→[MV.lst 3 (ds.map DE.c) false,.fn (.func 222) [] [.cptr [.int .i64 id]]][i]?=some x'→View σ x x':=fun h1 h2 =>
   nY (rI h2 (by simp)) (.fn rfl (nX (View.ptr (i:=0) (o:=0) h1 (by simp))))
  by_cases hm:id∈ds.map DE.id
  ·rw[decide_eq_true hm] at hc
   rw[if_pos hm]
   repeat' (first|(refine mV [.lst 3 (ds.map DE.c) false,.fn (.func 222) [] [.cptr [.int .i64 id]]] hc (by constructor) rfl (hv (b:=nl1) (by simp[St.set, *]) (by simp[St.set, *])) ?_)|(with_reducible first|(refine wT ?_;(first|((fail_if_success (have:=nl1));refine wN fun nl1 hnl=>?_)|refine wN fun _ hnl=>?_);revert hnl;(repeat refine wS fun _ _=>?_);intro hnl)|refine wE ?_|(refine wK ?_ ?_<;>intro h)|(refine wB ?_ ?_<;>intro h<;>simp only[h]))|simp(maxSteps:=4000000) (disch:=first|exact ddL|fail) only[go_sem,simprocAttr,Tryz.f151,Option.getD_some,Option.getD_none,Option.isSome_some,Option.isSome_none,FYs,hg,hall])
   all_goals first|exact hle (by simp[St.set, *]) (by simp[St.set, *]) (by simp[St.set, *])|exact⟨rfl,hle (by simp[St.set, *]) (by simp[St.set, *]) (by simp[St.set, *])⟩
  ·rw[decide_eq_false hm] at hc
   rw[if_neg hm]
   repeat' (first|(refine mV [.lst 3 (ds.map DE.c) false,.fn (.func 222) [] [.cptr [.int .i64 id]]] hc (by constructor) rfl (hv (b:=nl1) (by simp[St.set, *]) (by simp[St.set, *])) ?_)|(with_reducible first|(refine wT ?_;(first|((fail_if_success (have:=nl1));refine wN fun nl1 hnl=>?_)|refine wN fun _ hnl=>?_);revert hnl;(repeat refine wS fun _ _=>?_);intro hnl)|refine wE ?_|(refine wK ?_ ?_<;>intro h)|(refine wB ?_ ?_<;>intro h<;>simp only[h]))|simp(maxSteps:=4000000) (disch:=first|exact ddL|fail) only[go_sem,simprocAttr,Tryz.f151,Option.getD_some,Option.getD_none,Option.isSome_some,Option.isSome_none,FYs,hg,hall])
   all_goals first|exact hle (by simp[St.set, *]) (by simp[St.set, *]) (by simp[St.set, *])|exact⟨rfl,hle (by simp[St.set, *]) (by simp[St.set, *]) (by simp[St.set, *])⟩
end

section
set_option maxRecDepth 100000
set_option maxHeartbeats 8000000
theorem xL{c:CA}:∀{cs:List CA},c.id∉cs.map CA.id→gH .i64 c.id (.agg c.c) (cEs cs)=cEs (cs++[c])
 | [],_=>rfl
 | d::cs,h=>by
  simp only[List.map_cons,List.mem_cons,not_or] at h
  have ih:=xL h.2
  simp only[cEs,List.map_cons,List.cons_append,gH] at ih ⊢
  rw[if_neg (Ne.symm h.1),ih]
end

section
set_option maxRecDepth 100000
set_option maxHeartbeats 8000000
theorem bU.Di{n:Nat}{l l1:List (Nat × MV)}{d:List (FuncId × List MV)}{σ σ1:St}(q b:Nat){oq:aO}{t:TypeId}{e:Nat}(pre post:List MV){m m1:MV}(hq:σ q=some oq)(hb:σ b=some (.row t e [pre++m::post]))(hne:b≠q)(hv:View (St.none.set q oq) m m1)(hc:m1.aF=true)
 (h1:σ1 b=some (.row t e [pre++m1::post]))(h0:∀k o,σ1 k=some o→k≠q∧(k=b∨σ k=some o))(hl:∀p,p∈l1→View (St.none.set q oq) (bI l p.1) p.2):bU ⟨n,l,d⟩ σ ⟨n,l1,d⟩ σ1:=by
 refine bU.Fz (St.none.set q oq) (St.aC (St.none_le _) hq) (fun k o1 hk=>?_) (fun k o hk=>?_) hl
 ·by_cases e':k=b
  ·subst e'
   rw[h1] at hk
   cases hk
   refine⟨_,hb,.inr ⟨t,e,_,_,rfl,rfl,rfl,fun i x x1 hx hx1=>?_⟩⟩
   match i with
   | 0 =>
    simp only[List.getElem?_cons_zero,Option.some.injEq] at hx hx1
    subst hx hx1
    refine⟨by simp,fun j a b ha hb=>?_⟩
    by_cases hj:j<pre.length
    ·rw[List.getElem?_append_left hj] at ha hb
     rw[ha] at hb;cases hb
     exact .inl rfl
    ·rw[List.getElem?_append_right (by omega)] at ha hb
     match hk:j - pre.length with
     | 0 =>
      rw[hk] at ha hb
      simp only[List.getElem?_cons_zero,Option.some.injEq] at ha hb
      subst ha hb
      exact .inr ⟨hc,hv⟩
     | k+1 =>
      rw[hk] at ha hb
      simp only[List.getElem?_cons_succ] at ha hb
      rw[ha] at hb;cases hb
      exact .inl rfl
   | i+1=>simp at hx
  ·exact⟨_,(h0 k _ hk).2.resolve_left e',.inl rfl⟩
 ·by_cases e':k=b
  ·subst e';exact aI _ _ _ _ hne
  ·exact aI _ _ _ _ (h0 k _ hk).1
abbrev bkS(m l q b:Nat)(B:BK)(ex:List (List MV)):St:=(shS B.nx m l q B.cards B.dead ex).set b (bA B.sq l (.lst 2 (B.gr.map GR.c) false))
structure mX (m l q b:Nat):Prop where
 lm:l≠m
 qm:q≠m
 ql:q≠l
 bm:b≠m
 bl:b≠l
 bq:b≠q
theorem bB{σ:St}{l k:Nat}{o:aO}:((σ.set l o) k=none)=(k≠l∧σ k=none):=propext ⟨uX,fun h=>(aI _ _ _ _ h.1).trans h.2⟩
end
end Go.Proofs.YtppdgejjmhdjhaaGreatDoor
