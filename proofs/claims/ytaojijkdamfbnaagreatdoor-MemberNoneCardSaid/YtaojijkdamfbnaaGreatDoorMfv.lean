/- Parts of the proof, joined; conditions: those that its theorems name. -/
import Derived.Test.YtaojijkdamfbnaaGreatDoorMfs
import Derived.Test.YtaojijkdamfbnaaGreatDoorMfu
set_option linter.unusedVariables false
set_option linter.unusedSimpArgs false
set_option maxHeartbeats 4000000
namespace Go.Proofs.YtaojijkdamfbnaaGreatDoor
section
set_option maxRecDepth 100000
set_option maxHeartbeats 8000000
theorem bD.KI{n:Nat}{l l1:List (Nat × MV)}{d:List (FuncId × List MV)}{τ:St}{q:Nat}{o:aV}(hq:τ q=none)(h:∀p,p∈l1→View (St.none.set q o) (bY l p.1) p.2):bD ⟨n,l,d⟩ (τ.set q o) ⟨n,l1,d⟩ τ :=
 bD.freeze (St.none.set q o) (St.aD (St.none_le _) (aF _ _ _)) (sV hq) (fun k o' hk=>(aG _ _ _ _ (fun e=>by subst e;rw[hq] at hk;cases hk)).trans rfl) h
theorem Eb(b:BK):aA Tryz.prog 66 [.agg b.c] St.none (fun r _=>r=.agg [.int .i64 b.sq,.int .i64 b.nx,.lst 27 (b.cards.map CA.c) false,.lst 3 (b.dead.map DE.c) false,.lst 2 (b.gr.map GR.c) false]):=by
 refine aA.cI (aA.body 15 [.cell 2 137] Tryz.func66 rfl rfl rfl rfl ?_)
 repeat' (first|(with_reducible first|(refine wN fun _ hnl=>?_;revert hnl;(repeat refine wS fun _ _=>?_);intro hnl)|refine wE ?_|(refine wK ?_ ?_<;>intro h)|(refine wB ?_ ?_<;>intro h<;>simp only[h]))|simp(maxSteps:=4000000) (disch:=first|decide|assumption|omega|(simp only[wL];omega)) only[go_sem,simprocAttr,Tryz.f66])
 all_goals first|exact⟨_,St.le_refl _,rfl⟩|exact⟨_,St.le_refl _⟩
theorem iA(b:BK)(h1:b.cards.length≤1000000)(h2:b.dead.length≤1000000)(h3:b.gr.length≤1000000)(h4:∀g,g∈b.gr→g.mem.length≤1000000):aA Tryz.prog 36 [.agg b.c] St.none (fun r _=>r=.bool (j6 b)):=by
 refine aA.cI (aA.body 80 [.tmp 2] Tryz.func36 rfl rfl rfl rfl ?_)
 obtain⟨res,hres⟩:∃x,j6 b=x:=⟨_,rfl⟩
 rw[hres]
 unfold j6 big at hres
 have c0:=Eb b
 have c1:=vW b.nx b.cards b.dead h1 h2
 have c2:=Hv b.gr false h3 h4
 obtain⟨so,hso⟩:∃x,nG b.nx b.cards b.dead=x:=⟨_,rfl⟩
 obtain⟨go,hgo⟩:∃x,dN (-1) b.gr=x:=⟨_,rfl⟩
 rw[hso] at c1 hres
 rw[hgo] at c2 hres
 by_cases h0:so=true∧(0≤b.sq∧b.sq≤1099511627776)∧go=true
 rotate_left
 ·have e:res=false:=by
   rw[←hres]
   cases so<;>cases go<;>simp at h0 ⊢
   intro x y
   exact absurd y (by have:=h0 x;omega)
  subst e
  clear hres
  cases so<;>cases go
  all_goals
   repeat' (first|(with_reducible first|refine up c0 ?_|refine up c1 ?_|refine up c2 ?_)|(with_reducible first|(refine wT ?_;(first|((fail_if_success (have:=nl1));refine wN fun nl1 hnl=>?_)|((fail_if_success (have:=nl2));refine wN fun nl2 hnl=>?_)|((fail_if_success (have:=nl3));refine wN fun nl3 hnl=>?_)|((fail_if_success (have:=nl4));refine wN fun nl4 hnl=>?_)|((fail_if_success (have:=nl5));refine wN fun nl5 hnl=>?_)|refine wN fun _ hnl=>?_);revert hnl;(repeat refine wS fun _ _=>?_);intro hnl)|refine wE ?_|(refine wK ?_ ?_<;>intro h)|(refine wB ?_ ?_<;>intro h<;>simp only[h]))|simp(maxSteps:=4000000) (disch:=first|decide|assumption|omega|(simp only[wL];omega)) only[go_sem,simprocAttr,Tryz.f36])
   all_goals first|exact⟨_,St.le_refl _,rfl⟩|exact⟨_,St.le_refl _⟩|(exfalso;simp at h0;omega)
 ·obtain⟨rfl,⟨g1,g2⟩,rfl⟩:=h0
  rw[decide_eq_true ⟨g1,g2⟩,Bool.true_and,Bool.true_and,Bool.true_and] at hres
  repeat' (first|(with_reducible first|refine up c0 ?_|refine up c1 ?_|refine up c2 ?_)|(with_reducible first|(refine wT ?_;(first|((fail_if_success (have:=nl1));refine wN fun nl1 hnl=>?_)|((fail_if_success (have:=nl2));refine wN fun nl2 hnl=>?_)|((fail_if_success (have:=nl3));refine wN fun nl3 hnl=>?_)|((fail_if_success (have:=nl4));refine wN fun nl4 hnl=>?_)|((fail_if_success (have:=nl5));refine wN fun nl5 hnl=>?_)|refine wN fun _ hnl=>?_);revert hnl;(repeat refine wS fun _ _=>?_);intro hnl)|refine wE ?_|(refine wK ?_ ?_<;>intro h)|(refine wB ?_ ?_<;>intro h<;>simp only[h]))|simp(maxSteps:=4000000) (disch:=first|decide|assumption|omega|(simp only[wL];omega)) only[go_sem,simprocAttr,Tryz.f36])
  all_goals (try (exfalso;omega))
  refine aH (α:=Nat) (fun i=>⟨80,[(4,.int .i64 (i:Int)),(1,.ptr nl1 0 0)],[]⟩) (fun _=>St.none.set nl1 (.row 26 5 [b.c])) (fun i=>i≤b.dead.length∧∀d,d∈b.dead.take i→d.sq≤b.sq) (fun i=>b.dead.length - i) (.of (.less ?_ (St.aD (St.none_le _) (by simp[St.set, *]))) ⟨0,rfl,rfl,Nat.zero_le _,by simp⟩) ?_
  ·simp(maxSteps:=4000000) (disch:=first|decide|assumption|omega|(simp only[wL];omega)) only[go_sem,simprocAttr,aC,aB]
   all_goals rfl
  ·rintro i ⟨hi,hall⟩
   by_cases hlt:i<b.dead.length
   ·obtain⟨d,hd⟩:=bO b.dead hlt
    have hat:=bF (f:=DE.c) hd
    by_cases hb:d.sq≤b.sq
    ·repeat' (first|(with_reducible first|(refine wT ?_;(first|((fail_if_success (have:=nl1));refine wN fun nl1 hnl=>?_)|((fail_if_success (have:=nl2));refine wN fun nl2 hnl=>?_)|((fail_if_success (have:=nl3));refine wN fun nl3 hnl=>?_)|((fail_if_success (have:=nl4));refine wN fun nl4 hnl=>?_)|((fail_if_success (have:=nl5));refine wN fun nl5 hnl=>?_)|refine wN fun _ hnl=>?_);revert hnl;(repeat refine wS fun _ _=>?_);intro hnl)|refine wE ?_|(refine wK ?_ ?_<;>intro h)|(refine wB ?_ ?_<;>intro h<;>simp only[h]))|simp(maxSteps:=4000000) (disch:=first|decide|assumption|omega|(simp only[wL];omega)) only[go_sem,simprocAttr,hat])
     all_goals (try (exfalso;omega))
     all_goals
      refine .of (.less ?_ (St.le_refl _)) ⟨i+1,rfl,rfl,⟨by omega,fun e' h'=>?_⟩,by omega⟩
      ·simp(maxSteps:=4000000) (disch:=first|decide|assumption|omega|(simp only[wL];omega)) only[go_sem,simprocAttr,aC,aB]
       all_goals rfl
      ·rw[a8 hd,List.mem_append,List.mem_singleton] at h'
       rcases h' with h'|rfl
       ·exact hall e' h'
       ·exact hb
    ·have hf:(b.dead.all fun d=>decide (d.sq≤b.sq))=false:=List.all_eq_false.2 ⟨d,dP hd,by rw[decide_eq_false hb];simp⟩
     rw[hf,Bool.false_and] at hres
     subst hres
     repeat' (first|(with_reducible first|(refine wT ?_;(first|((fail_if_success (have:=nl1));refine wN fun nl1 hnl=>?_)|((fail_if_success (have:=nl2));refine wN fun nl2 hnl=>?_)|((fail_if_success (have:=nl3));refine wN fun nl3 hnl=>?_)|((fail_if_success (have:=nl4));refine wN fun nl4 hnl=>?_)|((fail_if_success (have:=nl5));refine wN fun nl5 hnl=>?_)|refine wN fun _ hnl=>?_);revert hnl;(repeat refine wS fun _ _=>?_);intro hnl)|refine wE ?_|(refine wK ?_ ?_<;>intro h)|(refine wB ?_ ?_<;>intro h<;>simp only[h]))|simp(maxSteps:=4000000) (disch:=first|decide|assumption|omega|(simp only[wL];omega)) only[go_sem,simprocAttr,hat])
     all_goals first|exact⟨_,St.le_refl _,rfl⟩|exact⟨_,St.le_refl _⟩|(exfalso;omega)
   ·have:i=b.dead.length:=by omega
    subst this
    rw[List.take_length] at hall
    have ht:(b.dead.all fun d=>decide (d.sq≤b.sq))=true:=List.all_eq_true.2 fun e h=>decide_eq_true (hall e h)
    rw[ht,Bool.true_and] at hres
    clear hall ht
    repeat' (first|(with_reducible first|(refine wT ?_;(first|((fail_if_success (have:=nl1));refine wN fun nl1 hnl=>?_)|((fail_if_success (have:=nl2));refine wN fun nl2 hnl=>?_)|((fail_if_success (have:=nl3));refine wN fun nl3 hnl=>?_)|((fail_if_success (have:=nl4));refine wN fun nl4 hnl=>?_)|((fail_if_success (have:=nl5));refine wN fun nl5 hnl=>?_)|refine wN fun _ hnl=>?_);revert hnl;(repeat refine wS fun _ _=>?_);intro hnl)|refine wE ?_|(refine wK ?_ ?_<;>intro h)|(refine wB ?_ ?_<;>intro h<;>simp only[h]))|simp(maxSteps:=4000000) (disch:=first|decide|assumption|omega|(simp only[wL];omega)) only[go_sem,simprocAttr])
    have hn1:nl3≠nl1:=by assumption
    refine aH (α:=Nat × Nat × List (List MV)) (fun s=>⟨80,[(6,.int .i64 (s.1:Int)),(5,.vec 1 s.2.1 0 s.1),(1,.ptr nl1 0 0)],[]⟩)
     (fun s=>(St.none.set nl1 (.row 26 5 [b.c])).set s.2.1 (.row 3 1 ((b.cards.take s.1).map (fun c=>aJ c.id)++s.2.2))) (fun s=>s.1≤b.cards.length∧s.2.1≠nl1) (fun s=>b.cards.length - s.1) (.of (.less ?_ (St.le_refl _)) ⟨(0,nl3,[]),rfl,by simp,Nat.zero_le _,hn1⟩) ?_
    ·simp(maxSteps:=4000000) (disch:=first|decide|assumption|omega|(simp only[wL];omega)) only[go_sem,simprocAttr,aC,aB]
     all_goals first|rfl|(simp[aB];done)
    ·rintro⟨i,q,ex⟩ ⟨hi,hq⟩
     simp only at hi hq ⊢
     have hq':=Ne.symm hq
     by_cases hlt:i<b.cards.length
     ·obtain⟨x,hx⟩:=bO b.cards hlt
      have hat:=bF (f:=CA.c) hx
      have hsn:=a8 hx
      have htl:(b.cards.take i).length=i:=by rw[List.length_take];omega
      obtain⟨L,hL⟩:∃L,b.cards.take i=L:=⟨_,rfl⟩
      rw[hL] at hsn htl ⊢
      have htk:(L.map (fun c=>aJ c.id)++ex).take i=L.map (fun c=>aJ c.id):=by rw[←htl];exact iP
      have hdr:(L.map (fun c=>aJ c.id)++ex).drop (i+1)=ex.drop 1:=by rw[←htl];exact jF
      have hLl:(L.map (fun c:CA=>aJ c.id)).length=i:=by rw[List.length_map,htl]
      repeat' (first|(with_reducible first|(refine wT ?_;(first|((fail_if_success (have:=nl1));refine wN fun nl1 hnl=>?_)|((fail_if_success (have:=nl2));refine wN fun nl2 hnl=>?_)|((fail_if_success (have:=nl3));refine wN fun nl3 hnl=>?_)|((fail_if_success (have:=nl4));refine wN fun nl4 hnl=>?_)|((fail_if_success (have:=nl5));refine wN fun nl5 hnl=>?_)|refine wN fun _ hnl=>?_);revert hnl;(repeat refine wS fun _ _=>?_);intro hnl)|refine wE ?_|(refine wK ?_ ?_<;>intro h)|(refine wB ?_ ?_<;>intro h<;>simp only[h]))|simp(maxSteps:=4000000) (disch:=first|decide|assumption|omega|(simp only[wL];omega)) only[go_sem,simprocAttr,FXs,hat,htk,hdr,hLl,htl])
      ·have hex:ex=[]:=List.eq_nil_of_length_eq_zero (by omega)
       subst hex
       refine .of (.less ?_ (σ1:=(St.none.set nl1 (.row 26 5 [b.c])).set nl5 (.row 3 1 (L.map (fun c=>aJ c.id)++[]++[aJ x.id]))) (le2 (by simp[St.set, *]) (by simp[St.set, *]))) ⟨(i+1,nl5,[]),rfl,by simp[hsn],⟨by simp only;omega,by assumption⟩,by simp only;omega⟩
       simp(maxSteps:=4000000) (disch:=first|decide|assumption|omega|(simp only[wL];omega)) only[go_sem,simprocAttr,aC,aB]
       all_goals first|rfl|(simp[aB];done)
      ·refine .of (.less ?_ (σ1:=(St.none.set nl1 (.row 26 5 [b.c])).set nl5 (.row 3 1 (L.map (fun c=>aJ c.id)++[aJ x.id]++ex.drop 1))) (le2 (by simp[St.set, *]) (by simp[St.set, *]))) ⟨(i+1,nl5,ex.drop 1),rfl,by simp[hsn],⟨by simp only;omega,by assumption⟩,by simp only;omega⟩
       simp(maxSteps:=4000000) (disch:=first|decide|assumption|omega|(simp only[wL];omega)) only[go_sem,simprocAttr,aC,aB]
       all_goals first|rfl|(simp[aB];done)
     ·have:i=b.cards.length:=by omega
      subst this
      rw[List.take_length]
      repeat' (first|(with_reducible first|(refine wT ?_;(first|((fail_if_success (have:=nl1));refine wN fun nl1 hnl=>?_)|((fail_if_success (have:=nl2));refine wN fun nl2 hnl=>?_)|((fail_if_success (have:=nl3));refine wN fun nl3 hnl=>?_)|((fail_if_success (have:=nl4));refine wN fun nl4 hnl=>?_)|((fail_if_success (have:=nl5));refine wN fun nl5 hnl=>?_)|refine wN fun _ hnl=>?_);revert hnl;(repeat refine wS fun _ _=>?_);intro hnl)|refine wE ?_|(refine wK ?_ ?_<;>intro h)|(refine wB ?_ ?_<;>intro h<;>simp only[h]))|simp(maxSteps:=4000000) (disch:=first|decide|assumption|omega|(simp only[wL];omega)) only[go_sem,simprocAttr])
      have hK:(b.cards.map fun c=>aJ c.id)=(b.cards.map CA.id).map aJ:=by rw[List.map_map];rfl
      rw[hK]
      refine aH (α:=Nat) (fun i=>⟨80,[(7,.int .i64 (i:Int)),(5,.lst 1 ((b.cards.map CA.id).map aJ) false),(1,.ptr nl1 0 0)],[]⟩) (fun _=>St.none.set nl1 (.row 26 5 [b.c])) (fun i=>i≤b.gr.length∧∀g,g∈b.gr.take i→bG g.mem (b.cards.map CA.id)=[]) (fun i=>b.gr.length - i) (.of (bD.KI (by simp[St.set,St.none, *]) ?_) ⟨0,rfl,rfl,Nat.zero_le _,by simp⟩) ?_
      ·intro p hp
       simp only[List.mem_cons,List.not_mem_nil,or_false] at hp
       rcases hp with rfl|rfl|rfl
       ·exact .same _
       ·exact cB (aF _ _ _) (by simp)
       ·exact .same _
      ·rintro i ⟨hi,hall⟩
       by_cases hlt:i<b.gr.length
       ·obtain⟨g,hg⟩:=bO b.gr hlt
        have hat:=bF (f:=GR.c) hg
        have hm:=B6 g.mem (b.cards.map CA.id) false false (h4 g (dP hg)) (by simpa using h1)
        obtain⟨M,hM⟩:∃M,bG g.mem (b.cards.map CA.id)=M:=⟨_,rfl⟩
        rw[hM] at hm
        have hMl:(M.map aJ).length=M.length:=List.length_map _
        by_cases hb:M=[]
        ·subst hb
         repeat' (first|(with_reducible first|refine up hm ?_)|(with_reducible first|(refine wT ?_;(first|((fail_if_success (have:=nl1));refine wN fun nl1 hnl=>?_)|((fail_if_success (have:=nl2));refine wN fun nl2 hnl=>?_)|((fail_if_success (have:=nl3));refine wN fun nl3 hnl=>?_)|((fail_if_success (have:=nl4));refine wN fun nl4 hnl=>?_)|((fail_if_success (have:=nl5));refine wN fun nl5 hnl=>?_)|refine wN fun _ hnl=>?_);revert hnl;(repeat refine wS fun _ _=>?_);intro hnl)|refine wE ?_|(refine wK ?_ ?_<;>intro h)|(refine wB ?_ ?_<;>intro h<;>simp only[h]))|simp(maxSteps:=4000000) (disch:=first|decide|assumption|omega|(simp only[wL];omega)) only[go_sem,simprocAttr,hat])
         all_goals (try (exfalso;omega))
         all_goals
          refine .of (.less ?_ (St.le_refl _)) ⟨i+1,rfl,rfl,⟨by omega,fun e' h'=>?_⟩,by omega⟩
          ·simp(maxSteps:=4000000) (disch:=first|decide|assumption|omega|(simp only[wL];omega)) only[go_sem,simprocAttr,aC,aB]
           all_goals rfl
          ·rw[a8 hg,List.mem_append,List.mem_singleton] at h'
           rcases h' with h'|rfl
           ·exact hall e' h'
           ·exact hM
        ·have hf:(b.gr.all fun g=>decide (bG g.mem (b.cards.map CA.id)=[]))=false:=List.all_eq_false.2 ⟨g,dP hg,by rw[hM,decide_eq_false hb];simp⟩
         rw[hf] at hres
         subst hres
         have hpos:0<M.length:=List.length_pos_iff.2 hb
         repeat' (first|(with_reducible first|refine up hm ?_)|(with_reducible first|(refine wT ?_;(first|((fail_if_success (have:=nl1));refine wN fun nl1 hnl=>?_)|((fail_if_success (have:=nl2));refine wN fun nl2 hnl=>?_)|((fail_if_success (have:=nl3));refine wN fun nl3 hnl=>?_)|((fail_if_success (have:=nl4));refine wN fun nl4 hnl=>?_)|((fail_if_success (have:=nl5));refine wN fun nl5 hnl=>?_)|refine wN fun _ hnl=>?_);revert hnl;(repeat refine wS fun _ _=>?_);intro hnl)|refine wE ?_|(refine wK ?_ ?_<;>intro h)|(refine wB ?_ ?_<;>intro h<;>simp only[h]))|simp(maxSteps:=4000000) (disch:=first|decide|assumption|omega|(simp only[wL];omega)) only[go_sem,simprocAttr,hat,hMl])
         all_goals first|exact⟨_,St.le_refl _,rfl⟩|exact⟨_,St.le_refl _⟩|(exfalso;omega)
       ·have:i=b.gr.length:=by omega
        subst this
        rw[List.take_length] at hall
        have ht:(b.gr.all fun g=>decide (bG g.mem (b.cards.map CA.id)=[]))=true:=List.all_eq_true.2 fun e h=>decide_eq_true (hall e h)
        rw[ht] at hres
        subst hres
        repeat' (first|(with_reducible first|(refine wT ?_;(first|((fail_if_success (have:=nl1));refine wN fun nl1 hnl=>?_)|((fail_if_success (have:=nl2));refine wN fun nl2 hnl=>?_)|((fail_if_success (have:=nl3));refine wN fun nl3 hnl=>?_)|((fail_if_success (have:=nl4));refine wN fun nl4 hnl=>?_)|((fail_if_success (have:=nl5));refine wN fun nl5 hnl=>?_)|refine wN fun _ hnl=>?_);revert hnl;(repeat refine wS fun _ _=>?_);intro hnl)|refine wE ?_|(refine wK ?_ ?_<;>intro h)|(refine wB ?_ ?_<;>intro h<;>simp only[h]))|simp(maxSteps:=4000000) (disch:=first|decide|assumption|omega|(simp only[wL];omega)) only[go_sem,simprocAttr])
        all_goals first|exact⟨_,St.le_refl _,rfl⟩|exact⟨_,St.le_refl _⟩
end

section
set_option maxRecDepth 100000
set_option maxHeartbeats 8000000
def SuF(l:List SU):Prop:=∀x,x∈l→x.fl.length≤1000000∧x.mem.length≤1000000∧x.log.length≤1000000
end

section
set_option maxRecDepth 100000
set_option maxHeartbeats 8000000
structure SaF (s:SA):Prop where
 nc:s.bk.cards.length≤1000000
 nd:s.bk.dead.length≤1000000
 ng:s.bk.gr.length≤1000000
 nm:∀g,g∈s.bk.gr→g.mem.length≤1000000
 ns:s.subs.length≤1000000
 sf:SuF s.subs
 nr:s.rows.length≤1000000
 nf:∀r,r∈s.rows→r.ans.fl.length≤1000000
end

section
set_option maxRecDepth 100000
set_option maxHeartbeats 8000000
theorem D3(l:List ND)(hl:l.length≤1000000)(tt:Bool)(h:bI l=0):aA Tryz.prog 12 [.lst 5 (l.map ND.c) tt] St.none (fun v σ'=>∃q,v=.ptr q 0 0∧σ'=St.none.set q (flO (.lst 5 (l.map ND.c) false) 0 0 .nilfn)):=by
 refine(aA.body 10 [.tmp 2] Tryz.func12 rfl rfl rfl rfl ?_)
 have c1:=pE l hl tt
 have c2:=Aw l hl tt
 rw[h] at c1
 repeat' (first|(with_reducible first|refine up c1 ?_|refine up c2 ?_)|(with_reducible first|(refine wN fun _ hnl=>?_;revert hnl;(repeat refine wS fun _ _=>?_);intro hnl)|refine wE ?_|(refine wK ?_ ?_<;>intro h)|(refine wB ?_ ?_<;>intro h<;>simp only[h]))|simp(maxSteps:=4000000) (disch:=first|decide|assumption|omega|(simp only[wL];omega)) only[go_sem,simprocAttr,Tryz.f12])
 all_goals exact⟨_,rfl,rfl⟩
theorem Hq(l:List ND)(hl:l.length≤1000000)(tt:Bool)(h:bI l≠0):aA Tryz.prog 12 [.lst 5 (l.map ND.c) tt] St.none (fun v _=>v=.nilp):=by
 refine(aA.body 10 [.tmp 2] Tryz.func12 rfl rfl rfl rfl ?_)
 have c1:=pE l hl tt
 obtain⟨e,he⟩:∃z,bI l=z:=⟨_,rfl⟩
 rw[he] at c1 h
 repeat' (first|(with_reducible first|refine up c1 ?_)|(with_reducible first|(refine wN fun _ hnl=>?_;revert hnl;(repeat refine wS fun _ _=>?_);intro hnl)|refine wE ?_|(refine wK ?_ ?_<;>intro h)|(refine wB ?_ ?_<;>intro h<;>simp only[h]))|simp(maxSteps:=4000000) (disch:=first|decide|assumption|omega|(simp only[wL];omega)) only[go_sem,simprocAttr,Tryz.f12])
theorem Hs(l:List Int)(tt:Bool)(hl:l.length≤1000000):aA Tryz.prog 81 [.lst 1 (l.map aJ) tt] St.none (fun r _=>r=.bool (eV 0 l)):=by
 refine aA.cI (aA.body 21 [.tmp 2] Tryz.func81 rfl rfl rfl rfl ?_)
 obtain⟨res,hres⟩:∃z,eV 0 l=z:=⟨_,rfl⟩
 rw[hres]
 repeat' (first|(with_reducible first|(refine wN fun _ hnl=>?_;revert hnl;(repeat refine wS fun _ _=>?_);intro hnl)|refine wE ?_|(refine wK ?_ ?_<;>intro h)|(refine wB ?_ ?_<;>intro h<;>simp only[h]))|simp(maxSteps:=4000000) (disch:=first|decide|assumption|omega|(simp only[wL];omega)) only[go_sem,simprocAttr,Tryz.f81])
 refine aH (α:=Nat) (fun i=>⟨21,[(8,.int .i64 (i:Int)),(7,.int .i64 (l.length:Int)),(6,.lst 1 (l.map aJ) tt),(3,.int .i64 (cC l i 0))],[]⟩) (fun _=>St.none) (fun i=>i≤l.length∧0≤cC l i 0∧res=eV (cC l i 0) (l.drop i)) (fun i=>l.length - i) (.of (.less ?_ (St.le_refl _)) ⟨0,rfl,rfl,Nat.zero_le _,Int.le_refl _,hres.symm⟩) ?_
 ·simp(maxSteps:=4000000) (disch:=first|decide|assumption|omega|(simp only[wL];omega)) only[go_sem,simprocAttr,aC,aB]
  all_goals rfl
 ·rintro i ⟨hi,hp,hq⟩
  by_cases hlt:i<l.length
  ·obtain⟨x,hx⟩:=bO l hlt
   rw[dZ hx,eV] at hq
   have hat:=bF (f:=aJ) hx
   have hnext:=fJ hx (z:=0)
   obtain⟨last,hlast⟩:∃k,cC l i 0=k:=⟨_,rfl⟩
   rw[hlast] at hq hp ⊢
   unfold fY at hq
   by_cases hr:last<x∧1≤x∧x<1073741824
   ·rw[decide_eq_true hr,Bool.true_and] at hq
    obtain⟨hr1,hr2,hr3⟩:=hr
    repeat' (first|(with_reducible first|(refine wN fun _ hnl=>?_;revert hnl;(repeat refine wS fun _ _=>?_);intro hnl)|refine wE ?_|(refine wK ?_ ?_<;>intro h)|(refine wB ?_ ?_<;>intro h<;>simp only[h]))|simp(maxSteps:=4000000) (disch:=first|decide|assumption|omega|(simp only[wL];omega)) only[go_sem,simprocAttr,hat])
    all_goals (try (exfalso;omega))
    all_goals
     refine .of (.less ?_ (St.none_le _)) ⟨i+1,rfl,rfl,⟨by omega,by rw[hnext];omega,by rw[hnext];exact hq⟩,by omega⟩
     rw[hnext]
     simp(maxSteps:=4000000) (disch:=first|decide|assumption|omega|(simp only[wL];omega)) only[go_sem,simprocAttr,aC,aB]
     all_goals rfl
   ·rw[decide_eq_false hr,Bool.false_and] at hq
    subst hq
    repeat' (first|(with_reducible first|(refine wN fun _ hnl=>?_;revert hnl;(repeat refine wS fun _ _=>?_);intro hnl)|refine wE ?_|(refine wK ?_ ?_<;>intro h)|(refine wB ?_ ?_<;>intro h<;>simp only[h]))|simp(maxSteps:=4000000) (disch:=first|decide|assumption|omega|(simp only[wL];omega)) only[go_sem,simprocAttr,hat])
    all_goals first|exact⟨_,St.le_refl _,rfl⟩|exact⟨_,St.le_refl _⟩|(exfalso;omega)
  ·have:i=l.length:=by omega
   subst this
   rw[List.drop_length,eV] at hq
   rw[hq]
   repeat' (first|(with_reducible first|(refine wN fun _ hnl=>?_;revert hnl;(repeat refine wS fun _ _=>?_);intro hnl)|refine wE ?_|(refine wK ?_ ?_<;>intro h)|(refine wB ?_ ?_<;>intro h<;>simp only[h]))|simp(maxSteps:=4000000) (disch:=first|decide|assumption|omega|(simp only[wL];omega)) only[go_sem,simprocAttr])
   all_goals first|exact⟨_,St.le_refl _,rfl⟩|exact⟨_,St.le_refl _⟩
theorem Hr(l:List GR)(tt:Bool)(hl:l.length≤1000000)(hm:∀g,g∈l→g.mem.length≤1000000):aA Tryz.prog 41 [.lst 2 (l.map GR.c) tt] St.none (fun r _=>r=.bool (dN (-1) l)):=by
 refine aA.cI (aA.body 30 [.tmp 2] Tryz.func41 rfl rfl rfl rfl ?_)
 obtain⟨res,hres⟩:∃z,dN (-1) l=z:=⟨_,rfl⟩
 rw[hres]
 repeat' (first|(with_reducible first|(refine wN fun _ hnl=>?_;revert hnl;(repeat refine wS fun _ _=>?_);intro hnl)|refine wE ?_|(refine wK ?_ ?_<;>intro h)|(refine wB ?_ ?_<;>intro h<;>simp only[h]))|simp(maxSteps:=4000000) (disch:=first|decide|assumption|omega|(simp only[wL];omega)) only[go_sem,simprocAttr,Tryz.f41])
 refine aH (α:=Nat) (fun i=>⟨30,[(8,.int .i64 (i:Int)),(7,.int .i64 (l.length:Int)),(6,.lst 2 (l.map GR.c) tt),(3,.int .i64 (cC (l.map GR.no) i (-1)))],[]⟩) (fun _=>St.none) (fun i=>i≤l.length∧-1≤cC (l.map GR.no) i (-1)∧res=dN (cC (l.map GR.no) i (-1)) (l.drop i)) (fun i=>l.length - i) (.of (.less ?_ (St.le_refl _)) ⟨0,rfl,rfl,Nat.zero_le _,Int.le_refl _,hres.symm⟩) ?_
 ·simp(maxSteps:=4000000) (disch:=first|decide|assumption|omega|(simp only[wL];omega)) only[go_sem,simprocAttr,aC,aB]
  all_goals rfl
 ·rintro i ⟨hi,hp,hq⟩
  by_cases hlt:i<l.length
  ·obtain⟨x,hx⟩:=bO l hlt
   rw[dZ hx,dN] at hq
   have hat:=bF (f:=GR.c) hx
   have hnext:=fJ (fK (f:=GR.no) hx) (z:=-1)
   have hc:=Hs x.mem false (hm x (dP hx))
   obtain⟨last,hlast⟩:∃k,cC (l.map GR.no) i (-1)=k:=⟨_,rfl⟩
   rw[hlast] at hq hp ⊢
   obtain⟨ok,hok⟩:∃b,eV 0 x.mem=b:=⟨_,rfl⟩
   rw[hok] at hc hq
   by_cases hr:last<x.no∧0≤x.no∧x.no<16
   ·rw[decide_eq_true hr,Bool.true_and] at hq
    obtain⟨hr1,hr2,hr3⟩:=hr
    cases ok
    ·rw[Bool.false_and] at hq
     subst hq
     repeat' (first|(with_reducible first|refine up hc ?_)|(with_reducible first|(refine wN fun _ hnl=>?_;revert hnl;(repeat refine wS fun _ _=>?_);intro hnl)|refine wE ?_|(refine wK ?_ ?_<;>intro h)|(refine wB ?_ ?_<;>intro h<;>simp only[h]))|simp(maxSteps:=4000000) (disch:=first|decide|assumption|omega|(simp only[wL];omega)) only[go_sem,simprocAttr,hat])
     all_goals first|exact⟨_,St.le_refl _,rfl⟩|exact⟨_,St.le_refl _⟩|(exfalso;omega)
    ·rw[Bool.true_and] at hq
     repeat' (first|(with_reducible first|refine up hc ?_)|(with_reducible first|(refine wN fun _ hnl=>?_;revert hnl;(repeat refine wS fun _ _=>?_);intro hnl)|refine wE ?_|(refine wK ?_ ?_<;>intro h)|(refine wB ?_ ?_<;>intro h<;>simp only[h]))|simp(maxSteps:=4000000) (disch:=first|decide|assumption|omega|(simp only[wL];omega)) only[go_sem,simprocAttr,hat])
     all_goals (try (exfalso;omega))
     all_goals
      refine .of (.less ?_ (St.none_le _)) ⟨i+1,rfl,rfl,⟨by omega,by rw[hnext];omega,by rw[hnext];exact hq⟩,by omega⟩
      rw[hnext]
      simp(maxSteps:=4000000) (disch:=first|decide|assumption|omega|(simp only[wL];omega)) only[go_sem,simprocAttr,aC,aB]
      all_goals rfl
   ·rw[decide_eq_false hr,Bool.false_and,Bool.false_and] at hq
    subst hq
    repeat' (first|(with_reducible first|refine up hc ?_)|(with_reducible first|(refine wN fun _ hnl=>?_;revert hnl;(repeat refine wS fun _ _=>?_);intro hnl)|refine wE ?_|(refine wK ?_ ?_<;>intro h)|(refine wB ?_ ?_<;>intro h<;>simp only[h]))|simp(maxSteps:=4000000) (disch:=first|decide|assumption|omega|(simp only[wL];omega)) only[go_sem,simprocAttr,hat])
    all_goals first|exact⟨_,St.le_refl _,rfl⟩|exact⟨_,St.le_refl _⟩|(exfalso;omega)
  ·have:i=l.length:=by omega
   subst this
   rw[List.drop_length,dN] at hq
   rw[hq]
   repeat' (first|(with_reducible first|(refine wN fun _ hnl=>?_;revert hnl;(repeat refine wS fun _ _=>?_);intro hnl)|refine wE ?_|(refine wK ?_ ?_<;>intro h)|(refine wB ?_ ?_<;>intro h<;>simp only[h]))|simp(maxSteps:=4000000) (disch:=first|decide|assumption|omega|(simp only[wL];omega)) only[go_sem,simprocAttr])
   all_goals first|exact⟨_,St.le_refl _,rfl⟩|exact⟨_,St.le_refl _⟩
theorem Cc(d:DE)(id:Int):aA Tryz.prog 123 [.agg d.c,.cptr [.int .i64 id]] St.none (fun r _=>r=.bool (decide (d.id=id))):=by
 refine aA.cI (aA.body 8 [.tmp 3] Tryz.func123 rfl rfl rfl rfl ?_)
 repeat' (first|(with_reducible first|(refine wN fun _ hnl=>?_;revert hnl;(repeat refine wS fun _ _=>?_);intro hnl)|refine wE ?_|(refine wK ?_ ?_<;>intro h)|(refine wB ?_ ?_<;>intro h<;>simp only[h]))|simp(maxSteps:=4000000) (disch:=first|decide|assumption|omega|(simp only[wL];omega)) only[go_sem,simprocAttr,Tryz.f123])
 all_goals first|exact⟨_,St.le_refl _,rfl⟩|exact⟨_,St.le_refl _⟩
theorem AS(l:List DE)(hl:l.length≤1000000)(t:Bool)(id:Int) :
  aA Tryz.prog 158 [.lst 3 (l.map DE.c) t,.fn (.func 123) [] [.cptr [.int .i64 id]]] St.none (fun r _=>r=.int .i64 (fN (l.map DE.id) id)):=by
 refine aA.cI (aA.body 19 [.tmp 4] Tryz.func158 rfl rfl rfl rfl ?_)
 repeat' (first|(with_reducible first|(refine wN fun _ hnl=>?_;revert hnl;(repeat refine wS fun _ _=>?_);intro hnl)|refine wE ?_|(refine wK ?_ ?_<;>intro h)|(refine wB ?_ ?_<;>intro h<;>simp only[h]))|simp(maxSteps:=4000000) (disch:=first|decide|assumption|omega|(simp only[wL];omega)) only[go_sem,simprocAttr,Tryz.f158])
 refine aH (α:=Nat) (fun k=>⟨19,[(8,.int .i64 (k:Int)),(7,.int .i64 (l.length:Int)),(6,.lst 3 (l.map DE.c) t),(0,.lst 3 (l.map DE.c) t),(1,.fn (.func 123) [] [.cptr [.int .i64 id]])],[]⟩) (fun _=>St.none)
  (fun k=>k≤l.length∧id∉(l.take k).map DE.id) (fun k=>l.length - k) (.of (.less ?_ (St.le_refl _)) ⟨0,rfl,rfl,Nat.zero_le _,by simp⟩) ?_
 ·simp(maxSteps:=4000000) (disch:=first|decide|assumption|omega|(simp only[wL];omega)) only[go_sem,simprocAttr,aC,aB]
  all_goals rfl
 ·rintro k ⟨h1,h2⟩
  by_cases hk:k<l.length
  ·obtain⟨d,hd⟩:=bO l hk
   have hat:=bF (f:=DE.c) hd
   have hc:=Cc d id
   by_cases he:d.id=id
   ·rw[decide_eq_true he] at hc
    have hi':=Iv (fK (f:=DE.id) hd) (by rw[he,←List.map_take];exact h2)
    have hm:=dP (fK (f:=DE.id) hd)
    rw[he] at hi' hm
    have hp:fN (l.map DE.id) id=k:=by unfold fN;rw[if_pos hm,hi']
    rw[hp]
    repeat' (first|(with_reducible first|refine up hc ?_)|(with_reducible first|(refine wN fun _ hnl=>?_;revert hnl;(repeat refine wS fun _ _=>?_);intro hnl)|refine wE ?_|(refine wK ?_ ?_<;>intro h)|(refine wB ?_ ?_<;>intro h<;>simp only[h]))|simp(maxSteps:=4000000) (disch:=first|decide|assumption|omega|(simp only[wL];omega)) only[go_sem,simprocAttr,hat])
    all_goals first|exact⟨_,St.le_refl _,rfl⟩|exact⟨_,St.le_refl _⟩
   ·rw[decide_eq_false he] at hc
    repeat' (first|(with_reducible first|refine up hc ?_)|(with_reducible first|(refine wN fun _ hnl=>?_;revert hnl;(repeat refine wS fun _ _=>?_);intro hnl)|refine wE ?_|(refine wK ?_ ?_<;>intro h)|(refine wB ?_ ?_<;>intro h<;>simp only[h]))|simp(maxSteps:=4000000) (disch:=first|decide|assumption|omega|(simp only[wL];omega)) only[go_sem,simprocAttr,hat])
    refine .of (.less ?_ (St.le_refl _)) ⟨k+1,rfl,rfl,⟨by omega,?_⟩,by omega⟩
    ·simp(maxSteps:=4000000) (disch:=first|decide|assumption|omega|(simp only[wL];omega)) only[go_sem,simprocAttr,aC,aB]
     all_goals rfl
    ·rw[a8 hd,List.map_append,List.mem_append]
     simpa using⟨by simpa using h2,Ne.symm he⟩
  ·have:k=l.length:=by omega
   subst this
   rw[List.take_length] at h2
   have hp:fN (l.map DE.id) id = -1:=by unfold fN;rw[if_neg h2]
   rw[hp]
   repeat' (first|(with_reducible first|(refine wN fun _ hnl=>?_;revert hnl;(repeat refine wS fun _ _=>?_);intro hnl)|refine wE ?_|(refine wK ?_ ?_<;>intro h)|(refine wB ?_ ?_<;>intro h<;>simp only[h]))|simp(maxSteps:=4000000) (disch:=first|decide|assumption|omega|(simp only[wL];omega)) only[go_sem,simprocAttr])
   all_goals first|exact⟨_,St.le_refl _,rfl⟩|exact⟨_,St.le_refl _⟩
theorem sI(l:List DE)(hl:l.length≤1000000)(t:Bool)(id:Int) :
  aA Tryz.prog 122 [.lst 3 (l.map DE.c) t,.fn (.func 123) [] [.cptr [.int .i64 id]]] St.none (fun r _=>r=.bool (decide (id∈l.map DE.id))):=by
 refine aA.cI (aA.body 9 [.tmp 4] Tryz.func122 rfl rfl rfl rfl ?_)
 have hi:=AS l hl t id
 have hn:=tW (l:=l.map DE.id) (x:=id)
 obtain⟨k,hk⟩:∃k,fN (l.map DE.id) id=k:=⟨_,rfl⟩
 rw[hk] at hi hn
 have e:decide (id∈l.map DE.id)=decide (0≤k):=decide_eq_decide.mpr ⟨fun h=>by
  have:¬k<0:=fun h'=>(hn ▸ h') h
  omega,fun h=>Classical.not_not.1 fun h'=>by
  have:k<0:=hn ▸ h'
  omega⟩
 rw[e]
 repeat' (first|(with_reducible first|refine up hi ?_)|(with_reducible first|(refine wN fun _ hnl=>?_;revert hnl;(repeat refine wS fun _ _=>?_);intro hnl)|refine wE ?_|(refine wK ?_ ?_<;>intro h)|(refine wB ?_ ?_<;>intro h<;>simp only[h]))|simp(maxSteps:=4000000) (disch:=first|decide|assumption|omega|(simp only[wL];omega)) only[go_sem,simprocAttr,Tryz.f122])
 all_goals first|exact⟨_,St.le_refl _,rfl⟩|exact⟨_,St.le_refl _⟩|(refine⟨_,St.le_refl _,?_⟩;simp[*])
end

section
set_option maxRecDepth 100000
set_option maxHeartbeats 8000000
def sS(cs:List CA)(ds:List DE)(id:Int):CA × Int :=
 match cs.find? (fun c=>decide (c.id=id)) with
 | some c=>(c,0)
 | none=>(ca0,if id∈ds.map DE.id then 9 else 6)
theorem wZ{id:Int}:∀cs:List CA,eQ id (cEs cs)=(cs.find? fun c=>decide (c.id=id)).map fun c=>.agg c.c
 | []=>rfl
 | c::cs=>by
  have ih:=wZ (id:=id) cs
  simp only[cEs,List.map_cons,eQ,List.find?_cons] at ih ⊢
  by_cases h:c.id=id
  ·simp[h]
  ·simp[h,ih]
abbrev shS(nx:Int)(m l q:Nat)(cs:List CA)(ds:List DE)(ex:List (List MV)):St:=((St.none.set m (.mp (cEs cs))).set l (shO nx m (.vec 3 q 0 ds.length))).set q (.row 90 3 (ds.map DE.c++ex))
theorem uH(nx:Int){m l q:Nat}(hlm:l≠m)(hqm:q≠m)(hql:q≠l)(cs:List CA)(ds:List DE)(hd:ds.length≤1000000)(ex:List (List MV))(id:Int) :
  aA Tryz.prog 80 [.ptr l 0 0,.int .i64 id] (shS nx m l q cs ds ex) (fun v σ'=>v=.tup [.agg (sS cs ds id).1.c,.int .i64 (sS cs ds id).2]∧σ'=shS nx m l q cs ds ex):=by
 refine aA.less (Q':=fun v σ'=>v=.tup [.agg (sS cs ds id).1.c,.int .i64 (sS cs ds id).2]∧(shS nx m l q cs ds ex).le σ') (aA.body 30 [.cell 4 42,.tmp 5] Tryz.func80 rfl rfl rfl rfl ?_) fun v σ' h=>⟨_,h.2,h.1,rfl⟩
 have hall:=oY cs
 have hg:=wZ (id:=id) cs
 have hml:=Ne.symm hlm
 have hmq:=Ne.symm hqm
 have hlq:=Ne.symm hql
 have hc:=sI ds hd false id
 have hle:∀{σ:St},σ m=some (.mp (cEs cs))→σ l=some (shO nx m (.vec 3 q 0 ds.length))→σ q=some (.row 90 3 (ds.map DE.c++ex))→(shS nx m l q cs ds ex).le σ:=fun h1 h2 h3=>St.aD (St.aD (St.aD (St.none_le _) h1) h2) h3
 unfold sS
 show R (cZ Tryz.prog _ _ (((St.none.set m (.mp (cEs cs))).set l (shO nx m (.vec 3 q 0 ds.length))).set q (.row 90 3 (ds.map DE.c++ex))) _)
 cases hf:cs.find? (fun c=>decide (c.id=id)) with
 | some c =>
  rw[hf,Option.map_some] at hg
  simp only
  repeat' (first|(with_reducible first|(refine wT ?_;(first|((fail_if_success (have:=nl1));refine wN fun nl1 hnl=>?_)|refine wN fun _ hnl=>?_);revert hnl;(repeat refine wS fun _ _=>?_);intro hnl)|refine wE ?_|(refine wK ?_ ?_<;>intro h)|(refine wB ?_ ?_<;>intro h<;>simp only[h]))|simp(maxSteps:=4000000) (disch:=first|exact ddL|fail) only[go_sem,simprocAttr,Tryz.f80,Option.getD_some,Option.getD_none,Option.isSome_some,Option.isSome_none,FYs,hg,hall])
  all_goals first|exact hle (by simp[St.set, *]) (by simp[St.set, *]) (by simp[St.set, *])|exact⟨rfl,hle (by simp[St.set, *]) (by simp[St.set, *]) (by simp[St.set, *])⟩
 | none =>
  rw[hf,Option.map_none] at hg
  simp only
  have hv:∀{σ:St} {b:Nat},σ b=some (.row 3 1 [[.int .i64 id]])→σ q=some (.row 90 3 (ds.map DE.c++ex))→∀(i:Nat) (x x':MV),[MV.vec 3 q 0 ds.length,.fn (.func 123) [] [.ptr b 0 0]][i]?=some x→[MV.lst 3 (ds.map DE.c) false,.fn (.func 123) [] [.cptr [.int .i64 id]]][i]?=some x'→View σ x x':=fun h1 h2 =>
   nA (cB h2 (by simp)) (.fn rfl (mZ (View.ptr (i:=0) (o:=0) h1 (by simp))))
  by_cases hm:id∈ds.map DE.id
  ·rw[decide_eq_true hm] at hc
   rw[if_pos hm]
   repeat' (first|(refine uU [.lst 3 (ds.map DE.c) false,.fn (.func 123) [] [.cptr [.int .i64 id]]] hc (by constructor) rfl (hv (b:=nl1) (by simp[St.set, *]) (by simp[St.set, *])) ?_)|(with_reducible first|(refine wT ?_;(first|((fail_if_success (have:=nl1));refine wN fun nl1 hnl=>?_)|refine wN fun _ hnl=>?_);revert hnl;(repeat refine wS fun _ _=>?_);intro hnl)|refine wE ?_|(refine wK ?_ ?_<;>intro h)|(refine wB ?_ ?_<;>intro h<;>simp only[h]))|simp(maxSteps:=4000000) (disch:=first|exact ddL|fail) only[go_sem,simprocAttr,Tryz.f80,Option.getD_some,Option.getD_none,Option.isSome_some,Option.isSome_none,FYs,hg,hall])
   all_goals first|exact hle (by simp[St.set, *]) (by simp[St.set, *]) (by simp[St.set, *])|exact⟨rfl,hle (by simp[St.set, *]) (by simp[St.set, *]) (by simp[St.set, *])⟩
  ·rw[decide_eq_false hm] at hc
   rw[if_neg hm]
   repeat' (first|(refine uU [.lst 3 (ds.map DE.c) false,.fn (.func 123) [] [.cptr [.int .i64 id]]] hc (by constructor) rfl (hv (b:=nl1) (by simp[St.set, *]) (by simp[St.set, *])) ?_)|(with_reducible first|(refine wT ?_;(first|((fail_if_success (have:=nl1));refine wN fun nl1 hnl=>?_)|refine wN fun _ hnl=>?_);revert hnl;(repeat refine wS fun _ _=>?_);intro hnl)|refine wE ?_|(refine wK ?_ ?_<;>intro h)|(refine wB ?_ ?_<;>intro h<;>simp only[h]))|simp(maxSteps:=4000000) (disch:=first|exact ddL|fail) only[go_sem,simprocAttr,Tryz.f80,Option.getD_some,Option.getD_none,Option.isSome_some,Option.isSome_none,FYs,hg,hall])
   all_goals first|exact hle (by simp[St.set, *]) (by simp[St.set, *]) (by simp[St.set, *])|exact⟨rfl,hle (by simp[St.set, *]) (by simp[St.set, *]) (by simp[St.set, *])⟩
end

section
set_option maxRecDepth 100000
set_option maxHeartbeats 8000000
theorem sT{c:CA}:∀{cs:List CA},c.id∉cs.map CA.id→l3 .i64 c.id (.agg c.c) (cEs cs)=cEs (cs++[c])
 | [],_=>rfl
 | d::cs,h=>by
  simp only[List.map_cons,List.mem_cons,not_or] at h
  have ih:=sT h.2
  simp only[cEs,List.map_cons,List.cons_append,l3] at ih ⊢
  rw[if_neg (Ne.symm h.1),ih]
theorem Ip{cs:List CA}{ds:List DE}{id:Int}:((sS cs ds id).2=6)=(id∉cs.map CA.id∧id∉ds.map DE.id):=by
 apply propext
 unfold sS
 cases hf:cs.find? (fun c=>decide (c.id=id)) with
 | some c =>
  have hm:=List.mem_of_find?_eq_some hf
  have he:=List.find?_some hf
  simp only[decide_eq_true_eq] at he
  have:id∈cs.map CA.id:=List.mem_map.2 ⟨c,hm,he⟩
  simp[this]
 | none =>
  have h0:=List.find?_eq_none.1 hf
  have:id∉cs.map CA.id:=fun h=>by
   obtain⟨c,hc,he⟩:=List.mem_map.1 h
   exact h0 c hc (by simpa using he)
  by_cases hd:id∈ds.map DE.id
  ·simp[this,hd]
  ·simp[this,hd]
theorem Kz{nx:Int}{cs:List CA}{pre:List DE}{d:DE}{s:Int}(h1:∀e,e∈pre→e.sq≤s)(h2:0≤s)(h3:s=0∨∃e,e∈pre∧e.sq=s) :
  Ih nx cs pre d=decide (1≤d.id∧d.id<nx∧1≤d.ver∧d.ver≤1099511627776∧s≤d.sq∧d.sq≤1099511627776∧(sS cs pre d.id).2=6):=by
 rw[Bool.eq_iff_iff]
 unfold Ih big
 simp only[Bool.and_eq_true,decide_eq_true_eq,List.all_eq_true,Ip]
 constructor
 ·rintro⟨⟨⟨a1,a2,a3,a4,a5,a6⟩,b⟩,c⟩
  refine⟨a1,a2,a3,a4,?_,a6,b,fun h=>?_⟩
  ·rcases h3 with rfl|⟨e,he,rfl⟩
   ·exact a5
   ·exact(c e he).2
  ·obtain⟨e,he,hid⟩:=List.mem_map.1 h
   exact(c e he).1 hid
 ·rintro⟨a1,a2,a3,a4,a5,a6,b,c⟩
  exact⟨⟨⟨a1,a2,a3,a4,by omega,a6⟩,b⟩,fun e he=>⟨fun hid=>c (List.mem_map.2 ⟨e,he,hid⟩),Int.le_trans (h1 e he) a5⟩⟩
end
end Go.Proofs.YtaojijkdamfbnaaGreatDoor
