/- Parts of the proof, joined; conditions: those that its theorems name. -/
import Derived.Test.YtojmhmejdihaaaaGreatDoorStw
import Derived.Test.YtojmhmejdihaaaaGreatDoorStza
set_option linter.unusedVariables false
set_option linter.unusedSimpArgs false
set_option maxHeartbeats 4000000
namespace Go.Proofs.YtojmhmejdihaaaaGreatDoor
section
set_option maxRecDepth 100000
set_option maxHeartbeats 8000000
structure SaF (s:SA):Prop where
 nc:s.bk.cards.length≤1000000
 nd:s.bk.dead.length≤1000000
 ng:s.bk.gr.length≤1000000
 nm:∀g,g∈s.bk.gr→g.mem.length≤1000000
 ns:s.subs.length≤1000000
 sf:SuF s.subs
 nr:s.rows.length≤1000000
 nf:∀r,r∈s.rows→r.ans.fl.length≤1000000
theorem lE{b:BK}:∀{last:Int} {l:List SU},cP b last l=true→∀x,x∈l→last<x.dev∧x.dev<6∧tB b x=true
 | _,[],_,x,hx=>by cases hx
 | last,y::l,h,x,hx=>by
  simp only[cP,Bool.and_eq_true,decide_eq_true_eq] at h
  obtain⟨⟨h1,h2⟩,h3⟩:=h
  have h6:y.dev<6:=by
   unfold tB at h2
   simp only[Bool.and_eq_true,decide_eq_true_eq] at h2
   exact h2.1.1.2.2
  rcases List.mem_cons.1 hx with rfl|hx
  ·exact⟨h1,h6,h2⟩
  ·obtain⟨i1,i2,i3⟩:=lE h3 x hx
   exact⟨by omega,i2,i3⟩
theorem wA{l:List RW}(h:cE l=true):l.length=6:=by
 unfold cE at h
 rw[Bool.and_eq_true,decide_eq_true_eq] at h
 exact h.1
theorem Bg(a b:SA)(h:SaF a):aA Tryz.prog 19 [.agg a.c,.agg b.c] St.none (fun r _=>r=.bool (decide (a=b))):=by
 refine aA.bF (aA.body 24 [.tmp 4] Tryz.func19 rfl rfl rfl rfl ?_)
 have c1:=Fv a.bk b.bk h.nc h.nd h.ng h.nm
 have c2:=yK a.subs b.subs h.ns h.sf false false
 have c3:=FB a.rows b.rows h.nr h.nf false false
 have e:decide (a=b)=(decide (a.bk=b.bk)&&decide (a.subs=b.subs)&&decide (a.rows=b.rows)):=by
  rw[Bool.eq_iff_iff]
  simp only[Bool.and_eq_true,decide_eq_true_eq,LQ,and_assoc]
 rw[e]
 obtain⟨b1,hb1⟩:∃z,decide (a.bk=b.bk)=z:=⟨_,rfl⟩
 obtain⟨b2,hb2⟩:∃z,decide (a.subs=b.subs)=z:=⟨_,rfl⟩
 obtain⟨b3,hb3⟩:∃z,decide (a.rows=b.rows)=z:=⟨_,rfl⟩
 rw[hb1] at c1
 rw[hb2] at c2
 rw[hb3] at c3
 rw[hb1,hb2,hb3]
 clear e
 cases b1<;>cases b2<;>cases b3
 all_goals
  repeat' (first|(with_reducible first|refine up c1 ?_|refine up c2 ?_|refine up c3 ?_)|(with_reducible first|(refine wN fun _ hnl=>?_;revert hnl;(repeat refine wS fun _ _=>?_);intro hnl)|refine wE ?_|(refine wK ?_ ?_<;>intro h)|(refine wB ?_ ?_<;>intro h<;>simp only[h]))|simp(maxSteps:=4000000) (disch:=first|decide|assumption|omega|(simp only[wL];omega)) only[go_sem,simprocAttr,Tryz.f19])
  all_goals first|exact⟨_,St.le_refl _,rfl⟩|exact⟨_,St.le_refl _⟩
theorem Dj(s:SA)(h:SaF s):aA Tryz.prog 17 [.agg s.c] St.none (fun r _=>r=.int .i64 (fO s)):=by
 refine aA.bF (aA.body 43 [.tmp 2] Tryz.func17 rfl rfl rfl rfl ?_)
 have c1:=yF s.bk h.nc h.nd h.ng h.nm
 have c2:=fun(hb:iQ s.bk=true)=>FC s.bk (pY hb) h.ng h.nm s.subs h.ns h.sf false
 have c3:=Dg s.rows h.nr h.nf false
 obtain⟨res,hres⟩:∃z,fO s=z:=⟨_,rfl⟩
 rw[hres]
 unfold fO at hres
 obtain⟨bo,hbo⟩:∃z,iQ s.bk=z:=⟨_,rfl⟩
 rw[hbo] at c1 c2 hres
 cases bo
 ·rw[if_pos rfl] at hres
  subst hres
  repeat' (first|(with_reducible first|refine up c1 ?_)|(with_reducible first|(refine wT ?_;(first|((fail_if_success (have:=nl1));refine wN fun nl1 hnl=>?_)|refine wN fun _ hnl=>?_);revert hnl;(repeat refine wS fun _ _=>?_);intro hnl)|refine wE ?_|(refine wK ?_ ?_<;>intro h)|(refine wB ?_ ?_<;>intro h<;>simp only[h]))|simp(maxSteps:=4000000) (disch:=first|decide|assumption|omega|(simp only[wL];omega)) only[go_sem,simprocAttr,Tryz.f17])
  all_goals first|exact⟨_,St.le_refl _,rfl⟩|exact⟨_,St.le_refl _⟩
 ·rw[if_neg (by simp)] at hres
  have c2:=c2 rfl
  obtain⟨so,hso⟩:∃z,(decide (s.subs.length≤4)&&cP s.bk (-1) s.subs)=z:=⟨_,rfl⟩
  rw[hso] at c2
  cases so
  ·have e:s.subs.length > 4∨cP s.bk (-1) s.subs=false:=by
    by_cases hl:s.subs.length≤4
    ·rw[decide_eq_true hl,Bool.true_and] at hso
     exact .inr hso
    ·exact .inl (by omega)
   rw[if_pos e] at hres
   subst hres
   repeat' (first|(with_reducible first|refine up c1 ?_|refine up c2 ?_)|(with_reducible first|(refine wT ?_;(first|((fail_if_success (have:=nl1));refine wN fun nl1 hnl=>?_)|refine wN fun _ hnl=>?_);revert hnl;(repeat refine wS fun _ _=>?_);intro hnl)|refine wE ?_|(refine wK ?_ ?_<;>intro h)|(refine wB ?_ ?_<;>intro h<;>simp only[h]))|simp(maxSteps:=4000000) (disch:=first|decide|assumption|omega|(simp only[wL];omega)) only[go_sem,simprocAttr,Tryz.f17])
   all_goals first|exact⟨_,St.le_refl _,rfl⟩|exact⟨_,St.le_refl _⟩
  ·rw[Bool.and_eq_true,decide_eq_true_eq] at hso
   obtain⟨hs4,hsub⟩:=hso
   rw[if_neg (by rw[hsub];simp;omega)] at hres
   obtain⟨ro,hro⟩:∃z,cE s.rows=z:=⟨_,rfl⟩
   rw[hro] at c3 hres
   cases ro
   ·rw[if_pos rfl] at hres
    subst hres
    repeat' (first|(with_reducible first|refine up c1 ?_|refine up c2 ?_|refine up c3 ?_)|(with_reducible first|(refine wT ?_;(first|((fail_if_success (have:=nl1));refine wN fun nl1 hnl=>?_)|refine wN fun _ hnl=>?_);revert hnl;(repeat refine wS fun _ _=>?_);intro hnl)|refine wE ?_|(refine wK ?_ ?_<;>intro h)|(refine wB ?_ ?_<;>intro h<;>simp only[h]))|simp(maxSteps:=4000000) (disch:=first|decide|assumption|omega|(simp only[wL];omega)) only[go_sem,simprocAttr,Tryz.f17])
    all_goals first|exact⟨_,St.le_refl _,rfl⟩|exact⟨_,St.le_refl _⟩
   ·rw[if_neg (by simp)] at hres
    have hr6:=wA hro
    repeat' (first|(with_reducible first|refine up c1 ?_|refine up c2 ?_|refine up c3 ?_)|(with_reducible first|(refine wT ?_;(first|((fail_if_success (have:=nl1));refine wN fun nl1 hnl=>?_)|refine wN fun _ hnl=>?_);revert hnl;(repeat refine wS fun _ _=>?_);intro hnl)|refine wE ?_|(refine wK ?_ ?_<;>intro h)|(refine wB ?_ ?_<;>intro h<;>simp only[h]))|simp(maxSteps:=4000000) (disch:=first|decide|assumption|omega|(simp only[wL];omega)) only[go_sem,simprocAttr,Tryz.f17])
    refine aD (α:=Nat) (fun i=>⟨43,[(3,.int .i64 (i:Int)),(1,.ptr nl1 0 0)],[]⟩) (fun _=>St.none.set nl1 (.row 30 7 [s.c])) (fun i=>i≤s.subs.length∧∀x,x∈s.subs.take i→(s.rows.getD x.dev.toNat rwZ).ep=x.ep) (fun i=>s.subs.length - i) (.of (.less ?_ (St.le_refl _)) ⟨0,rfl,rfl,Nat.zero_le _,by simp⟩) ?_
    ·simp(maxSteps:=4000000) (disch:=first|decide|assumption|omega|(simp only[wL];omega)) only[go_sem,simprocAttr,aC,aB]
     all_goals rfl
    ·rintro i ⟨hi,hall⟩
     by_cases hlt:i<s.subs.length
     ·obtain⟨x,hx⟩:=bC s.subs hlt
      have hat:=aV (f:=SU.c) hx
      obtain⟨d1,d2,-⟩:=lE hsub x (bR hx)
      obtain⟨k,hk⟩:∃k:Nat,x.dev=k:=⟨x.dev.toNat,by omega⟩
      have hatr:(s.rows.map RW.c).getD k []=(s.rows.getD k rwZ).c:=aU rwZ (by omega)
      have hn:=hall
      by_cases he:(s.rows.getD k rwZ).ep=x.ep
      ·obtain⟨r,hr⟩:∃r,s.rows.getD k rwZ=r:=⟨_,rfl⟩
       rw[hr] at hatr
       have he':=he
       rw[hr] at he'
       repeat' (first|(with_reducible first|(refine wT ?_;(first|((fail_if_success (have:=nl1));refine wN fun nl1 hnl=>?_)|refine wN fun _ hnl=>?_);revert hnl;(repeat refine wS fun _ _=>?_);intro hnl)|refine wE ?_|(refine wK ?_ ?_<;>intro h)|(refine wB ?_ ?_<;>intro h<;>simp only[h]))|simp(maxSteps:=4000000) (disch:=first|decide|assumption|omega|(simp only[wL];omega)) only[go_sem,simprocAttr,hat,hatr,hk])
       all_goals (try (exfalso;omega))
       all_goals
        refine .of (.less ?_ (St.le_refl _)) ⟨i+1,rfl,rfl,⟨by omega,fun y hy=>?_⟩,by omega⟩
        ·simp(maxSteps:=4000000) (disch:=first|decide|assumption|omega|(simp only[wL];omega)) only[go_sem,simprocAttr,aC,aB]
         all_goals rfl
        ·rw[aO hx,List.mem_append,List.mem_singleton] at hy
         rcases hy with hy|rfl
         ·exact hn y hy
         ·rw[hk,Int.toNat_natCast];exact he
      ·have hf:(s.subs.all fun x=>decide ((s.rows.getD x.dev.toNat rwZ).ep=x.ep))=false:=List.all_eq_false.2 ⟨x,bR hx,by rw[hk,Int.toNat_natCast,decide_eq_false he];simp⟩
       rw[if_pos hf] at hres
       subst hres
       obtain⟨r,hr⟩:∃r,s.rows.getD k rwZ=r:=⟨_,rfl⟩
       rw[hr] at hatr he
       repeat' (first|(with_reducible first|(refine wT ?_;(first|((fail_if_success (have:=nl1));refine wN fun nl1 hnl=>?_)|refine wN fun _ hnl=>?_);revert hnl;(repeat refine wS fun _ _=>?_);intro hnl)|refine wE ?_|(refine wK ?_ ?_<;>intro h)|(refine wB ?_ ?_<;>intro h<;>simp only[h]))|simp(maxSteps:=4000000) (disch:=first|decide|assumption|omega|(simp only[wL];omega)) only[go_sem,simprocAttr,hat,hatr,hk])
       all_goals first|exact⟨_,St.le_refl _,rfl⟩|exact⟨_,St.le_refl _⟩|(exfalso;omega)
     ·have:i=s.subs.length:=by omega
      subst this
      rw[List.take_length] at hall
      have ht:(s.subs.all fun x=>decide ((s.rows.getD x.dev.toNat rwZ).ep=x.ep))=true:=List.all_eq_true.2 fun x hx=>decide_eq_true (hall x hx)
      rw[if_neg (by rw[ht];simp)] at hres
      subst hres
      repeat' (first|(with_reducible first|(refine wT ?_;(first|((fail_if_success (have:=nl1));refine wN fun nl1 hnl=>?_)|refine wN fun _ hnl=>?_);revert hnl;(repeat refine wS fun _ _=>?_);intro hnl)|refine wE ?_|(refine wK ?_ ?_<;>intro h)|(refine wB ?_ ?_<;>intro h<;>simp only[h]))|simp(maxSteps:=4000000) (disch:=first|decide|assumption|omega|(simp only[wL];omega)) only[go_sem,simprocAttr])
      all_goals first|exact⟨_,St.le_refl _,rfl⟩|exact⟨_,St.le_refl _⟩
theorem xE{s:SA}(h:fO s=0):iQ s.bk=true∧s.subs.length≤4∧cP s.bk (-1) s.subs=true∧cE s.rows=true:=by
 unfold fO at h
 by_cases h1:iQ s.bk=false
 ·rw[if_pos h1] at h;cases h
 ·rw[if_neg h1] at h
  by_cases h2:s.subs.length > 4∨cP s.bk (-1) s.subs=false
  ·rw[if_pos h2] at h;cases h
  ·rw[if_neg h2] at h
   by_cases h3:cE s.rows=false
   ·rw[if_pos h3] at h;cases h
   ·exact⟨by simpa using h1,by omega,by simpa using fun e=>h2 (.inr e),by simpa using h3⟩
theorem yJ(s:SA)(h:SaF s)(hw:fO s=0)(dev:Int):aA Tryz.prog 22 [.agg s.c,.int .i64 dev] St.none (fun r _=>r=.lst 27 ((jT s dev).map CA.c) false):=by
 refine aA.seen (aA.body 36 [.tmp 4] Tryz.func22 rfl rfl rfl rfl ?_)
 obtain⟨w1,w2,w3,w4⟩:=xE hw
 repeat' (first|(with_reducible first|(refine wT ?_;(first|((fail_if_success (have:=nl1));refine wN fun nl1 hnl=>?_)|refine wN fun _ hnl=>?_);revert hnl;(repeat refine wS fun _ _=>?_);intro hnl)|refine wE ?_|(refine wK ?_ ?_<;>intro h)|(refine wB ?_ ?_<;>intro h<;>simp only[h]))|simp(maxSteps:=4000000) (disch:=first|decide|assumption|omega|(simp only[wL];omega)) only[go_sem,simprocAttr,Tryz.f22])
 refine aD (α:=Nat) (fun i=>⟨36,[(5,.int .i64 (i:Int)),(2,.ptr nl1 0 0),(1,.int .i64 dev)],[]⟩) (fun _=>St.none.set nl1 (.row 30 7 [s.c])) (fun i=>i≤s.subs.length∧∀x,x∈s.subs.take i→x.dev≠dev) (fun i=>s.subs.length - i) (.of (.less ?_ (St.le_refl _)) ⟨0,rfl,rfl,Nat.zero_le _,by simp⟩) ?_
 ·simp(maxSteps:=4000000) (disch:=first|decide|assumption|omega|(simp only[wL];omega)) only[go_sem,simprocAttr,aC,aB]
  all_goals rfl
 ·rintro i ⟨hi,hall⟩
  have hns:=h.ns
  by_cases hlt:i<s.subs.length
  ·obtain⟨x,hx⟩:=bC s.subs hlt
   have hat:=aV (f:=SU.c) hx
   by_cases he:x.dev=dev
   ·have hfind:s.subs.find? (fun x=>decide (x.dev=dev))=some x:=by
     rw[gX s.subs hx,List.find?_append]
     have:(s.subs.take i).find? (fun x=>decide (x.dev=dev))=none:=List.find?_eq_none.2 fun y hy=>by simpa using hall y hy
     rw[this]
     simp[he]
    obtain⟨-,-,ho⟩:=lE w3 x (bR hx)
    have hp:bM x.fl=0:=by
     unfold tB at ho
     simp only[Bool.and_eq_true] at ho
     exact nM ho.1.2
    have hi:=sU s.bk (pY w1) h.ng h.nm x.fl hp false x.mask 1073741824
    unfold jT
    rw[hfind]
    unfold eD
    simp only
    obtain⟨K,hK⟩:∃z,(fZ s.bk x.fl x.mask 1073741824).map CA.c=z:=⟨_,rfl⟩
    rw[hK] at hi ⊢
    obtain⟨C,c1⟩:∃C:bP,∀ms,C 33 ms=some ⟨[],fun v=>v=.lst 27 K false,none⟩:=⟨lO 33 (.lst 27 K false),fun _=>cM⟩
    repeat' (first|(with_reducible first|(refine wT ?_;(first|((fail_if_success (have:=nl1));refine wN fun nl1 hnl=>?_)|refine wN fun _ hnl=>?_);revert hnl;(repeat refine wS fun _ _=>?_);intro hnl)|refine wE ?_|(refine wK ?_ ?_<;>intro h)|(refine wB ?_ ?_<;>intro h<;>simp only[h]))|simp(maxSteps:=4000000) (disch:=first|decide|assumption|omega|(simp only[wL];omega)) only[go_sem,simprocAttr,hat,he])
    all_goals (try (exfalso;omega))
    refine aJ mixed (by decide +kernel) C ?_
    repeat' (first|(with_reducible refine aF (c1 _) hi ?_)|(with_reducible first|(refine wT ?_;(first|((fail_if_success (have:=nl1));refine wN fun nl1 hnl=>?_)|refine wN fun _ hnl=>?_);revert hnl;(repeat refine wS fun _ _=>?_);intro hnl)|refine wE ?_|(refine wK ?_ ?_<;>intro h)|(refine wB ?_ ?_<;>intro h<;>simp only[h]))|simp(maxSteps:=4000000) (disch:=first|decide|assumption|omega|(simp only[wL];omega)) only[go_sem,simprocAttr,hat])
    all_goals exact .same _
   ·repeat' (first|(with_reducible first|(refine wT ?_;(first|((fail_if_success (have:=nl1));refine wN fun nl1 hnl=>?_)|refine wN fun _ hnl=>?_);revert hnl;(repeat refine wS fun _ _=>?_);intro hnl)|refine wE ?_|(refine wK ?_ ?_<;>intro h)|(refine wB ?_ ?_<;>intro h<;>simp only[h]))|simp(maxSteps:=4000000) (disch:=first|decide|assumption|omega|(simp only[wL];omega)) only[go_sem,simprocAttr,hat])
    all_goals (try (exfalso;omega))
    all_goals
     refine .of (.less ?_ (St.le_refl _)) ⟨i+1,rfl,rfl,⟨by omega,fun y hy=>?_⟩,by omega⟩
     ·simp(maxSteps:=4000000) (disch:=first|decide|assumption|omega|(simp only[wL];omega)) only[go_sem,simprocAttr,aC,aB]
      all_goals rfl
     ·rw[aO hx,List.mem_append,List.mem_singleton] at hy
      rcases hy with hy|rfl
      ·exact hall y hy
      ·exact he
  ·have:i=s.subs.length:=by omega
   subst this
   rw[List.take_length] at hall
   have hfind:s.subs.find? (fun x=>decide (x.dev=dev))=none:=List.find?_eq_none.2 fun y hy=>by simpa using hall y hy
   unfold jT
   rw[hfind]
   repeat' (first|(with_reducible first|(refine wT ?_;(first|((fail_if_success (have:=nl1));refine wN fun nl1 hnl=>?_)|refine wN fun _ hnl=>?_);revert hnl;(repeat refine wS fun _ _=>?_);intro hnl)|refine wE ?_|(refine wK ?_ ?_<;>intro h)|(refine wB ?_ ?_<;>intro h<;>simp only[h]))|simp(maxSteps:=4000000) (disch:=first|decide|assumption|omega|(simp only[wL];omega)) only[go_sem,simprocAttr])
   all_goals exact .nil 27 false
end

section
set_option maxRecDepth 100000
set_option maxHeartbeats 8000000
theorem pD(l:List ND)(hl:l.length≤1000000)(tt:Bool)(h:bM l=0):aA Tryz.prog 26 [.lst 5 (l.map ND.c) tt] St.none (fun v σ'=>∃q,v=.ptr q 0 0∧σ'=St.none.set q (flO (.lst 5 (l.map ND.c) false) 0 0 .nilfn)):=by
 refine(aA.body 10 [.tmp 2] Tryz.func26 rfl rfl rfl rfl ?_)
 have c1:=lY l hl tt
 have c2:=sI l hl tt
 rw[h] at c1
 repeat' (first|(with_reducible first|refine up c1 ?_|refine up c2 ?_)|(with_reducible first|(refine wN fun _ hnl=>?_;revert hnl;(repeat refine wS fun _ _=>?_);intro hnl)|refine wE ?_|(refine wK ?_ ?_<;>intro h)|(refine wB ?_ ?_<;>intro h<;>simp only[h]))|simp(maxSteps:=4000000) (disch:=first|exact ddL|fail) only[go_sem,simprocAttr,Tryz.f26])
 all_goals exact⟨_,rfl,rfl⟩
theorem IU(l:List ND)(hl:l.length≤1000000)(tt:Bool)(h:bM l≠0):aA Tryz.prog 26 [.lst 5 (l.map ND.c) tt] St.none (fun v _=>v=.nilp):=by
 refine(aA.body 10 [.tmp 2] Tryz.func26 rfl rfl rfl rfl ?_)
 have c1:=lY l hl tt
 obtain⟨e,he⟩:∃z,bM l=z:=⟨_,rfl⟩
 rw[he] at c1 h
 repeat' (first|(with_reducible first|refine up c1 ?_)|(with_reducible first|(refine wN fun _ hnl=>?_;revert hnl;(repeat refine wS fun _ _=>?_);intro hnl)|refine wE ?_|(refine wK ?_ ?_<;>intro h)|(refine wB ?_ ?_<;>intro h<;>simp only[h]))|simp(maxSteps:=4000000) (disch:=first|exact ddL|fail) only[go_sem,simprocAttr,Tryz.f26])
theorem zV(l:List Int)(tt:Bool)(hl:l.length≤1000000):aA Tryz.prog 183 [.lst 1 (l.map aR) tt] St.none (fun r _=>r=.bool (fP 0 l)):=by
 refine aA.bF (aA.body 21 [.tmp 2] Tryz.func183 rfl rfl rfl rfl ?_)
 obtain⟨res,hres⟩:∃z,fP 0 l=z:=⟨_,rfl⟩
 rw[hres]
 repeat' (first|(with_reducible first|(refine wN fun _ hnl=>?_;revert hnl;(repeat refine wS fun _ _=>?_);intro hnl)|refine wE ?_|(refine wK ?_ ?_<;>intro h)|(refine wB ?_ ?_<;>intro h<;>simp only[h]))|simp(maxSteps:=4000000) (disch:=first|exact ddL|fail) only[go_sem,simprocAttr,Tryz.f183])
 refine aD (α:=Nat) (fun i=>⟨21,[(8,.int .i64 (i:Int)),(7,.int .i64 (l.length:Int)),(6,.lst 1 (l.map aR) tt),(3,.int .i64 (bY l i 0))],[]⟩) (fun _=>St.none) (fun i=>i≤l.length∧0≤bY l i 0∧res=fP (bY l i 0) (l.drop i)) (fun i=>l.length - i) (.of (.less ?_ (St.le_refl _)) ⟨0,rfl,rfl,Nat.zero_le _,Int.le_refl _,hres.symm⟩) ?_
 ·simp(maxSteps:=4000000) (disch:=first|exact ddL|fail) only[go_sem,simprocAttr,aC,aB]
  all_goals rfl
 ·rintro i ⟨hi,hp,hq⟩
  by_cases hlt:i<l.length
  ·obtain⟨x,hx⟩:=bC l hlt
   rw[cY hx,fP] at hq
   have hat:=aV (f:=aR) hx
   have hnext:=eM hx (z:=0)
   obtain⟨last,hlast⟩:∃k,bY l i 0=k:=⟨_,rfl⟩
   rw[hlast] at hq hp ⊢
   unfold eD at hq
   by_cases hr:last<x∧1≤x∧x<1073741824
   ·rw[decide_eq_true hr,Bool.true_and] at hq
    obtain⟨hr1,hr2,hr3⟩:=hr
    repeat' (first|(with_reducible first|(refine wN fun _ hnl=>?_;revert hnl;(repeat refine wS fun _ _=>?_);intro hnl)|refine wE ?_|(refine wK ?_ ?_<;>intro h)|(refine wB ?_ ?_<;>intro h<;>simp only[h]))|simp(maxSteps:=4000000) (disch:=first|exact ddL|fail) only[go_sem,simprocAttr,hat])
    all_goals (try (exfalso;omega))
    all_goals
     refine .of (.less ?_ (St.none_le _)) ⟨i+1,rfl,rfl,⟨by omega,by rw[hnext];omega,by rw[hnext];exact hq⟩,by omega⟩
     rw[hnext]
     simp(maxSteps:=4000000) (disch:=first|exact ddL|fail) only[go_sem,simprocAttr,aC,aB]
     all_goals rfl
   ·rw[decide_eq_false hr,Bool.false_and] at hq
    subst hq
    repeat' (first|(with_reducible first|(refine wN fun _ hnl=>?_;revert hnl;(repeat refine wS fun _ _=>?_);intro hnl)|refine wE ?_|(refine wK ?_ ?_<;>intro h)|(refine wB ?_ ?_<;>intro h<;>simp only[h]))|simp(maxSteps:=4000000) (disch:=first|exact ddL|fail) only[go_sem,simprocAttr,hat])
    all_goals first|exact⟨_,St.le_refl _,rfl⟩|exact⟨_,St.le_refl _⟩|(exfalso;omega)
  ·have:i=l.length:=by omega
   subst this
   rw[List.drop_length,fP] at hq
   rw[hq]
   repeat' (first|(with_reducible first|(refine wN fun _ hnl=>?_;revert hnl;(repeat refine wS fun _ _=>?_);intro hnl)|refine wE ?_|(refine wK ?_ ?_<;>intro h)|(refine wB ?_ ?_<;>intro h<;>simp only[h]))|simp(maxSteps:=4000000) (disch:=first|exact ddL|fail) only[go_sem,simprocAttr])
   all_goals first|exact⟨_,St.le_refl _,rfl⟩|exact⟨_,St.le_refl _⟩
theorem IV(l:List GR)(tt:Bool)(hl:l.length≤1000000)(hm:∀g,g∈l→g.mem.length≤1000000):aA Tryz.prog 96 [.lst 2 (l.map GR.c) tt] St.none (fun r _=>r=.bool (dQ (-1) l)):=by
 refine aA.bF (aA.body 30 [.tmp 2] Tryz.func96 rfl rfl rfl rfl ?_)
 obtain⟨res,hres⟩:∃z,dQ (-1) l=z:=⟨_,rfl⟩
 rw[hres]
 repeat' (first|(with_reducible first|(refine wN fun _ hnl=>?_;revert hnl;(repeat refine wS fun _ _=>?_);intro hnl)|refine wE ?_|(refine wK ?_ ?_<;>intro h)|(refine wB ?_ ?_<;>intro h<;>simp only[h]))|simp(maxSteps:=4000000) (disch:=first|exact ddL|fail) only[go_sem,simprocAttr,Tryz.f96])
 refine aD (α:=Nat) (fun i=>⟨30,[(8,.int .i64 (i:Int)),(7,.int .i64 (l.length:Int)),(6,.lst 2 (l.map GR.c) tt),(3,.int .i64 (bY (l.map GR.no) i (-1)))],[]⟩) (fun _=>St.none) (fun i=>i≤l.length∧-1≤bY (l.map GR.no) i (-1)∧res=dQ (bY (l.map GR.no) i (-1)) (l.drop i)) (fun i=>l.length - i) (.of (.less ?_ (St.le_refl _)) ⟨0,rfl,rfl,Nat.zero_le _,Int.le_refl _,hres.symm⟩) ?_
 ·simp(maxSteps:=4000000) (disch:=first|exact ddL|fail) only[go_sem,simprocAttr,aC,aB]
  all_goals rfl
 ·rintro i ⟨hi,hp,hq⟩
  by_cases hlt:i<l.length
  ·obtain⟨x,hx⟩:=bC l hlt
   rw[cY hx,dQ] at hq
   have hat:=aV (f:=GR.c) hx
   have hnext:=eM (fM (f:=GR.no) hx) (z:=-1)
   have hc:=zV x.mem false (hm x (bR hx))
   obtain⟨last,hlast⟩:∃k,bY (l.map GR.no) i (-1)=k:=⟨_,rfl⟩
   rw[hlast] at hq hp ⊢
   obtain⟨ok,hok⟩:∃b,fP 0 x.mem=b:=⟨_,rfl⟩
   rw[hok] at hc hq
   by_cases hr:last<x.no∧0≤x.no∧x.no<16
   ·rw[decide_eq_true hr,Bool.true_and] at hq
    obtain⟨hr1,hr2,hr3⟩:=hr
    cases ok
    ·rw[Bool.false_and] at hq
     subst hq
     repeat' (first|(with_reducible first|refine up hc ?_)|(with_reducible first|(refine wN fun _ hnl=>?_;revert hnl;(repeat refine wS fun _ _=>?_);intro hnl)|refine wE ?_|(refine wK ?_ ?_<;>intro h)|(refine wB ?_ ?_<;>intro h<;>simp only[h]))|simp(maxSteps:=4000000) (disch:=first|exact ddL|fail) only[go_sem,simprocAttr,hat])
     all_goals first|exact⟨_,St.le_refl _,rfl⟩|exact⟨_,St.le_refl _⟩|(exfalso;omega)
    ·rw[Bool.true_and] at hq
     repeat' (first|(with_reducible first|refine up hc ?_)|(with_reducible first|(refine wN fun _ hnl=>?_;revert hnl;(repeat refine wS fun _ _=>?_);intro hnl)|refine wE ?_|(refine wK ?_ ?_<;>intro h)|(refine wB ?_ ?_<;>intro h<;>simp only[h]))|simp(maxSteps:=4000000) (disch:=first|exact ddL|fail) only[go_sem,simprocAttr,hat])
     all_goals (try (exfalso;omega))
     all_goals
      refine .of (.less ?_ (St.none_le _)) ⟨i+1,rfl,rfl,⟨by omega,by rw[hnext];omega,by rw[hnext];exact hq⟩,by omega⟩
      rw[hnext]
      simp(maxSteps:=4000000) (disch:=first|exact ddL|fail) only[go_sem,simprocAttr,aC,aB]
      all_goals rfl
   ·rw[decide_eq_false hr,Bool.false_and,Bool.false_and] at hq
    subst hq
    repeat' (first|(with_reducible first|refine up hc ?_)|(with_reducible first|(refine wN fun _ hnl=>?_;revert hnl;(repeat refine wS fun _ _=>?_);intro hnl)|refine wE ?_|(refine wK ?_ ?_<;>intro h)|(refine wB ?_ ?_<;>intro h<;>simp only[h]))|simp(maxSteps:=4000000) (disch:=first|exact ddL|fail) only[go_sem,simprocAttr,hat])
    all_goals first|exact⟨_,St.le_refl _,rfl⟩|exact⟨_,St.le_refl _⟩|(exfalso;omega)
  ·have:i=l.length:=by omega
   subst this
   rw[List.drop_length,dQ] at hq
   rw[hq]
   repeat' (first|(with_reducible first|(refine wN fun _ hnl=>?_;revert hnl;(repeat refine wS fun _ _=>?_);intro hnl)|refine wE ?_|(refine wK ?_ ?_<;>intro h)|(refine wB ?_ ?_<;>intro h<;>simp only[h]))|simp(maxSteps:=4000000) (disch:=first|exact ddL|fail) only[go_sem,simprocAttr])
   all_goals first|exact⟨_,St.le_refl _,rfl⟩|exact⟨_,St.le_refl _⟩
theorem Dm(d:DE)(id:Int):aA Tryz.prog 265 [.agg d.c,.cptr [.int .i64 id]] St.none (fun r _=>r=.bool (decide (d.id=id))):=by
 refine aA.bF (aA.body 8 [.tmp 3] Tryz.func265 rfl rfl rfl rfl ?_)
 repeat' (first|(with_reducible first|(refine wN fun _ hnl=>?_;revert hnl;(repeat refine wS fun _ _=>?_);intro hnl)|refine wE ?_|(refine wK ?_ ?_<;>intro h)|(refine wB ?_ ?_<;>intro h<;>simp only[h]))|simp(maxSteps:=4000000) (disch:=first|exact ddL|fail) only[go_sem,simprocAttr,Tryz.f265])
 all_goals first|exact⟨_,St.le_refl _,rfl⟩|exact⟨_,St.le_refl _⟩
theorem B4(l:List DE)(hl:l.length≤1000000)(t:Bool)(id:Int) :
  aA Tryz.prog 310 [.lst 3 (l.map DE.c) t,.fn (.func 265) [] [.cptr [.int .i64 id]]] St.none (fun r _=>r=.int .i64 (gE (l.map DE.id) id)):=by
 refine aA.bF (aA.body 19 [.tmp 4] Tryz.func310 rfl rfl rfl rfl ?_)
 repeat' (first|(with_reducible first|(refine wN fun _ hnl=>?_;revert hnl;(repeat refine wS fun _ _=>?_);intro hnl)|refine wE ?_|(refine wK ?_ ?_<;>intro h)|(refine wB ?_ ?_<;>intro h<;>simp only[h]))|simp(maxSteps:=4000000) (disch:=first|exact ddL|fail) only[go_sem,simprocAttr,Tryz.f310])
 refine aD (α:=Nat) (fun k=>⟨19,[(8,.int .i64 (k:Int)),(7,.int .i64 (l.length:Int)),(6,.lst 3 (l.map DE.c) t),(0,.lst 3 (l.map DE.c) t),(1,.fn (.func 265) [] [.cptr [.int .i64 id]])],[]⟩) (fun _=>St.none)
  (fun k=>k≤l.length∧id∉(l.take k).map DE.id) (fun k=>l.length - k) (.of (.less ?_ (St.le_refl _)) ⟨0,rfl,rfl,Nat.zero_le _,by simp⟩) ?_
 ·simp(maxSteps:=4000000) (disch:=first|exact ddL|fail) only[go_sem,simprocAttr,aC,aB]
  all_goals rfl
 ·rintro k ⟨h1,h2⟩
  by_cases hk:k<l.length
  ·obtain⟨d,hd⟩:=bC l hk
   have hat:=aV (f:=DE.c) hd
   have hc:=Dm d id
   by_cases he:d.id=id
   ·rw[decide_eq_true he] at hc
    have hi':=Ka (fM (f:=DE.id) hd) (by rw[he,←List.map_take];exact h2)
    have hm:=bR (fM (f:=DE.id) hd)
    rw[he] at hi' hm
    have hp:gE (l.map DE.id) id=k:=by unfold gE;rw[if_pos hm,hi']
    rw[hp]
    repeat' (first|(with_reducible first|refine up hc ?_)|(with_reducible first|(refine wN fun _ hnl=>?_;revert hnl;(repeat refine wS fun _ _=>?_);intro hnl)|refine wE ?_|(refine wK ?_ ?_<;>intro h)|(refine wB ?_ ?_<;>intro h<;>simp only[h]))|simp(maxSteps:=4000000) (disch:=first|exact ddL|fail) only[go_sem,simprocAttr,hat])
    all_goals first|exact⟨_,St.le_refl _,rfl⟩|exact⟨_,St.le_refl _⟩
   ·rw[decide_eq_false he] at hc
    repeat' (first|(with_reducible first|refine up hc ?_)|(with_reducible first|(refine wN fun _ hnl=>?_;revert hnl;(repeat refine wS fun _ _=>?_);intro hnl)|refine wE ?_|(refine wK ?_ ?_<;>intro h)|(refine wB ?_ ?_<;>intro h<;>simp only[h]))|simp(maxSteps:=4000000) (disch:=first|exact ddL|fail) only[go_sem,simprocAttr,hat])
    refine .of (.less ?_ (St.le_refl _)) ⟨k+1,rfl,rfl,⟨by omega,?_⟩,by omega⟩
    ·simp(maxSteps:=4000000) (disch:=first|exact ddL|fail) only[go_sem,simprocAttr,aC,aB]
     all_goals rfl
    ·rw[aO hd,List.map_append,List.mem_append]
     simpa using⟨by simpa using h2,Ne.symm he⟩
  ·have:k=l.length:=by omega
   subst this
   rw[List.take_length] at h2
   have hp:gE (l.map DE.id) id = -1:=by unfold gE;rw[if_neg h2]
   rw[hp]
   repeat' (first|(with_reducible first|(refine wN fun _ hnl=>?_;revert hnl;(repeat refine wS fun _ _=>?_);intro hnl)|refine wE ?_|(refine wK ?_ ?_<;>intro h)|(refine wB ?_ ?_<;>intro h<;>simp only[h]))|simp(maxSteps:=4000000) (disch:=first|exact ddL|fail) only[go_sem,simprocAttr])
   all_goals first|exact⟨_,St.le_refl _,rfl⟩|exact⟨_,St.le_refl _⟩
theorem uG(l:List DE)(hl:l.length≤1000000)(t:Bool)(id:Int) :
  aA Tryz.prog 264 [.lst 3 (l.map DE.c) t,.fn (.func 265) [] [.cptr [.int .i64 id]]] St.none (fun r _=>r=.bool (decide (id∈l.map DE.id))):=by
 refine aA.bF (aA.body 9 [.tmp 4] Tryz.func264 rfl rfl rfl rfl ?_)
 have hi:=B4 l hl t id
 have hn:=vQ (l:=l.map DE.id) (x:=id)
 obtain⟨k,hk⟩:∃k,gE (l.map DE.id) id=k:=⟨_,rfl⟩
 rw[hk] at hi hn
 have e:decide (id∈l.map DE.id)=decide (0≤k):=decide_eq_decide.mpr ⟨fun h=>by
  have:¬k<0:=fun h'=>(hn ▸ h') h
  omega,fun h=>Classical.not_not.1 fun h'=>by
  have:k<0:=hn ▸ h'
  omega⟩
 rw[e]
 repeat' (first|(with_reducible first|refine up hi ?_)|(with_reducible first|(refine wN fun _ hnl=>?_;revert hnl;(repeat refine wS fun _ _=>?_);intro hnl)|refine wE ?_|(refine wK ?_ ?_<;>intro h)|(refine wB ?_ ?_<;>intro h<;>simp only[h]))|simp(maxSteps:=4000000) (disch:=first|exact ddL|fail) only[go_sem,simprocAttr,Tryz.f264])
 all_goals first|exact⟨_,St.le_refl _,rfl⟩|exact⟨_,St.le_refl _⟩|(refine⟨_,St.le_refl _,?_⟩;simp[*])
end

section
set_option maxRecDepth 100000
set_option maxHeartbeats 8000000
def Av(cs:List CA)(ds:List DE)(id:Int):CA × Int :=
 match cs.find? (fun c=>decide (c.id=id)) with
 | some c=>(c,0)
 | none=>(ca0,if id∈ds.map DE.id then 9 else 6)
theorem y9{id:Int}:∀cs:List CA,cJ id (cEs cs)=(cs.find? fun c=>decide (c.id=id)).map fun c=>.agg c.c
 | []=>rfl
 | c::cs=>by
  have ih:=y9 (id:=id) cs
  simp only[cEs,List.map_cons,cJ,List.find?_cons] at ih ⊢
  by_cases h:c.id=id
  ·simp[h]
  ·simp[h,ih]
abbrev shS(nx:Int)(m l q:Nat)(cs:List CA)(ds:List DE)(ex:List (List MV)):St:=((St.none.set m (.mp (cEs cs))).set l (shO nx m (.vec 3 q 0 ds.length))).set q (.row 166 3 (ds.map DE.c++ex))
theorem FF(nx:Int){m l q:Nat}(hlm:l≠m)(hqm:q≠m)(hql:q≠l)(cs:List CA)(ds:List DE)(hd:ds.length≤1000000)(ex:List (List MV))(id:Int) :
  aA Tryz.prog 182 [.ptr l 0 0,.int .i64 id] (shS nx m l q cs ds ex) (fun v σ'=>v=.tup [.agg (Av cs ds id).1.c,.int .i64 (Av cs ds id).2]∧σ'=shS nx m l q cs ds ex):=by
 refine aA.less (Q':=fun v σ'=>v=.tup [.agg (Av cs ds id).1.c,.int .i64 (Av cs ds id).2]∧(shS nx m l q cs ds ex).le σ') (aA.body 30 [.cell 4 52,.tmp 5] Tryz.func182 rfl rfl rfl rfl ?_) fun v σ' h=>⟨_,h.2,h.1,rfl⟩
 have hall:=tS cs
 have hg:=y9 (id:=id) cs
 have hml:=Ne.symm hlm
 have hmq:=Ne.symm hqm
 have hlq:=Ne.symm hql
 have hc:=uG ds hd false id
 have hle:∀{σ:St},σ m=some (.mp (cEs cs))→σ l=some (shO nx m (.vec 3 q 0 ds.length))→σ q=some (.row 166 3 (ds.map DE.c++ex))→(shS nx m l q cs ds ex).le σ:=fun h1 h2 h3=>St.aL (St.aL (St.aL (St.none_le _) h1) h2) h3
 unfold Av
 show R (dB Tryz.prog _ _ (((St.none.set m (.mp (cEs cs))).set l (shO nx m (.vec 3 q 0 ds.length))).set q (.row 166 3 (ds.map DE.c++ex))) _)
 cases hf:cs.find? (fun c=>decide (c.id=id)) with
 | some c =>
  rw[hf,Option.map_some] at hg
  simp only
  repeat' (first|(with_reducible first|(refine wT ?_;(first|((fail_if_success (have:=nl1));refine wN fun nl1 hnl=>?_)|refine wN fun _ hnl=>?_);revert hnl;(repeat refine wS fun _ _=>?_);intro hnl)|refine wE ?_|(refine wK ?_ ?_<;>intro h)|(refine wB ?_ ?_<;>intro h<;>simp only[h]))|simp(maxSteps:=4000000) (disch:=first|exact ddL|fail) only[go_sem,simprocAttr,Tryz.f182,Option.getD_some,Option.getD_none,Option.isSome_some,Option.isSome_none,FYs,hg,hall])
  all_goals first|exact hle (by simp[St.set, *]) (by simp[St.set, *]) (by simp[St.set, *])|exact⟨rfl,hle (by simp[St.set, *]) (by simp[St.set, *]) (by simp[St.set, *])⟩
 | none =>
  rw[hf,Option.map_none] at hg
  simp only
  have hv:∀{σ:St} {b:Nat},σ b=some (.row 3 1 [[.int .i64 id]])→σ q=some (.row 166 3 (ds.map DE.c++ex))→∀(i:Nat) (x x':MV),[MV.vec 3 q 0 ds.length,.fn (.func 265) [] [.ptr b 0 0]][i]?=some x→[MV.lst 3 (ds.map DE.c) false,.fn (.func 265) [] [.cptr [.int .i64 id]]][i]?=some x'→View σ x x':=fun h1 h2 =>
   lH (dW h2 (by simp)) (.fn rfl (fK (View.ptr (i:=0) (o:=0) h1 (by simp))))
  by_cases hm:id∈ds.map DE.id
  ·rw[decide_eq_true hm] at hc
   rw[if_pos hm]
   repeat' (first|(refine gY [.lst 3 (ds.map DE.c) false,.fn (.func 265) [] [.cptr [.int .i64 id]]] hc (by constructor) rfl (hv (b:=nl1) (by simp[St.set, *]) (by simp[St.set, *])) ?_)|(with_reducible first|(refine wT ?_;(first|((fail_if_success (have:=nl1));refine wN fun nl1 hnl=>?_)|refine wN fun _ hnl=>?_);revert hnl;(repeat refine wS fun _ _=>?_);intro hnl)|refine wE ?_|(refine wK ?_ ?_<;>intro h)|(refine wB ?_ ?_<;>intro h<;>simp only[h]))|simp(maxSteps:=4000000) (disch:=first|exact ddL|fail) only[go_sem,simprocAttr,Tryz.f182,Option.getD_some,Option.getD_none,Option.isSome_some,Option.isSome_none,FYs,hg,hall])
   all_goals first|exact hle (by simp[St.set, *]) (by simp[St.set, *]) (by simp[St.set, *])|exact⟨rfl,hle (by simp[St.set, *]) (by simp[St.set, *]) (by simp[St.set, *])⟩
  ·rw[decide_eq_false hm] at hc
   rw[if_neg hm]
   repeat' (first|(refine gY [.lst 3 (ds.map DE.c) false,.fn (.func 265) [] [.cptr [.int .i64 id]]] hc (by constructor) rfl (hv (b:=nl1) (by simp[St.set, *]) (by simp[St.set, *])) ?_)|(with_reducible first|(refine wT ?_;(first|((fail_if_success (have:=nl1));refine wN fun nl1 hnl=>?_)|refine wN fun _ hnl=>?_);revert hnl;(repeat refine wS fun _ _=>?_);intro hnl)|refine wE ?_|(refine wK ?_ ?_<;>intro h)|(refine wB ?_ ?_<;>intro h<;>simp only[h]))|simp(maxSteps:=4000000) (disch:=first|exact ddL|fail) only[go_sem,simprocAttr,Tryz.f182,Option.getD_some,Option.getD_none,Option.isSome_some,Option.isSome_none,FYs,hg,hall])
   all_goals first|exact hle (by simp[St.set, *]) (by simp[St.set, *]) (by simp[St.set, *])|exact⟨rfl,hle (by simp[St.set, *]) (by simp[St.set, *]) (by simp[St.set, *])⟩
end

section
set_option maxRecDepth 100000
set_option maxHeartbeats 8000000
theorem Jx{P:Program}{g:FuncId}{ms:List MV}{σ τ:St}{q:MV→St→Prop}{k:MV→St→Prop}(h:aA P g ms τ fun v σ'=>∃ρ:St,(∀j o,ρ j=some o→τ j=none)∧σ'=ρ.over τ∧q v ρ)(hle:τ.le σ)
 (hk:∀v ρ,(∀j o,ρ j=some o→σ j=none)→q v ρ→R (cD v (ρ.over σ) k)):R (dN P g ms σ k) :=
 cR h hle fun v σ' hv hf=>by
  obtain⟨ρ,hρ,rfl,hq⟩:=hv
  have e:(ρ.over τ).over (σ.minus τ)=ρ.over σ:=by
   funext j
   cases hj:ρ j with
   | some o=>simp[St.over,hj]
   | none =>
    cases ht:τ j with
    | none=>simp[St.over,St.minus,hj,ht]
    | some o'=>simp[St.over,St.minus,hj,ht,hle j o' ht]
  rw[e]
  refine hk v ρ (fun j o hj=>?_) hq
  rcases hf j o (by simp[St.over,hj]) with h|⟨o',h⟩
  ·exact h
  ·rw[hρ j o hj] at h;cases h
theorem B6{c:CA}:∀{cs:List CA},c.id∉cs.map CA.id→dJ .i64 c.id (.agg c.c) (cEs cs)=cEs (cs++[c])
 | [],_=>rfl
 | d::cs,h=>by
  simp only[List.map_cons,List.mem_cons,not_or] at h
  have ih:=B6 h.2
  simp only[cEs,List.map_cons,List.cons_append,dJ] at ih ⊢
  rw[if_neg (Ne.symm h.1),ih]
theorem J4{cs:List CA}{ds:List DE}{id:Int}:((Av cs ds id).2=6)=(id∉cs.map CA.id∧id∉ds.map DE.id):=by
 apply propext
 unfold Av
 cases hf:cs.find? (fun c=>decide (c.id=id)) with
 | some c =>
  have hm:=List.mem_of_find?_eq_some hf
  have he:=List.find?_some hf
  simp only[decide_eq_true_eq] at he
  have:id∈cs.map CA.id:=List.mem_map.2 ⟨c,hm,he⟩
  simp[this]
 | none =>
  have h0:=List.find?_eq_none.1 hf
  have:id∉cs.map CA.id:=fun h=>by
   obtain⟨c,hc,he⟩:=List.mem_map.1 h
   exact h0 c hc (by simpa using he)
  by_cases hd:id∈ds.map DE.id
  ·simp[this,hd]
  ·simp[this,hd]
theorem MG{nx:Int}{cs:List CA}{pre:List DE}{d:DE}{s:Int}(h1:∀e,e∈pre→e.sq≤s)(h2:0≤s)(h3:s=0∨∃e,e∈pre∧e.sq=s) :
  JY nx cs pre d=decide (1≤d.id∧d.id<nx∧1≤d.ver∧d.ver≤1099511627776∧s≤d.sq∧d.sq≤1099511627776∧(Av cs pre d.id).2=6):=by
 rw[Bool.eq_iff_iff]
 unfold JY big
 simp only[Bool.and_eq_true,decide_eq_true_eq,List.all_eq_true,J4]
 constructor
 ·rintro⟨⟨⟨a1,a2,a3,a4,a5,a6⟩,b⟩,c⟩
  refine⟨a1,a2,a3,a4,?_,a6,b,fun h=>?_⟩
  ·rcases h3 with rfl|⟨e,he,rfl⟩
   ·exact a5
   ·exact(c e he).2
  ·obtain⟨e,he,hid⟩:=List.mem_map.1 h
   exact(c e he).1 hid
 ·rintro⟨a1,a2,a3,a4,a5,a6,b,c⟩
  exact⟨⟨⟨a1,a2,a3,a4,by omega,a6⟩,b⟩,fun e he=>⟨fun hid=>c (List.mem_map.2 ⟨e,he,hid⟩),Int.le_trans (h1 e he) a5⟩⟩
end
end Go.Proofs.YtojmhmejdihaaaaGreatDoor
