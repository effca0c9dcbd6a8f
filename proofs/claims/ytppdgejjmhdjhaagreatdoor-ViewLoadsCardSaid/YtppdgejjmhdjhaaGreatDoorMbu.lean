/- Parts of the proof, joined; conditions: those that its theorems name. -/
import Derived.Test.YtppdgejjmhdjhaaGreatDoorMbt
set_option linter.unusedVariables false
set_option linter.unusedSimpArgs false
set_option maxHeartbeats 4000000
namespace Go.Proofs.YtppdgejjmhdjhaaGreatDoor
section
set_option maxRecDepth 100000
set_option maxHeartbeats 8000000
theorem bM.MA{n:Nat}{l l1:List (Nat × MV)}{d:List (FuncId × List MV)}{τ:St}{q:Nat}{o:aW}(hq:τ q=none)(h:∀p,p∈l1→View (St.none.set q o) (cA l p.1) p.2):bM ⟨n,l,d⟩ (τ.set q o) ⟨n,l1,d⟩ τ :=
 bM.freeze (St.none.set q o) (St.aD (St.none_le _) (aJ _ _ _)) (fI hq) (fun k o' hk=>(aM _ _ _ _ (fun e=>by subst e;rw[hq] at hk;cases hk)).trans rfl) h
theorem Fp(b:BK):aA Tryz.prog 107 [.agg b.c] St.none (fun r _=>r=.agg [.int .i64 b.sq,.int .i64 b.nx,.lst 27 (b.cards.map CA.c) false,.lst 3 (b.dead.map DE.c) false,.lst 2 (b.gr.map GR.c) false]):=by
 refine aA.bZ (aA.body 15 [.cell 2 41] Tryz.func107 rfl rfl rfl rfl ?_)
 repeat' (first|(with_reducible first|(refine wN fun _ hnl=>?_;revert hnl;(repeat refine wS fun _ _=>?_);intro hnl)|refine wE ?_|(refine wK ?_ ?_<;>intro h)|(refine wB ?_ ?_<;>intro h<;>simp only[h]))|simp(maxSteps:=4000000) (disch:=first|decide|assumption|omega|(simp only[wL];omega)) only[go_sem,simprocAttr,Tryz.f107])
 all_goals first|exact⟨_,St.le_refl _,rfl⟩|exact⟨_,St.le_refl _⟩
theorem yA(b:BK)(h1:b.cards.length≤1000000)(h2:b.dead.length≤1000000)(h3:b.gr.length≤1000000)(h4:∀g,g∈b.gr→g.mem.length≤1000000):aA Tryz.prog 43 [.agg b.c] St.none (fun r _=>r=.bool (kG b)):=by
 refine aA.bZ (aA.body 80 [.tmp 2] Tryz.func43 rfl rfl rfl rfl ?_)
 obtain⟨res,hres⟩:∃x,kG b=x:=⟨_,rfl⟩
 rw[hres]
 unfold kG big at hres
 have c0:=Fp b
 have c1:=yE b.nx b.cards b.dead h1 h2
 have c2:=I8 b.gr false h3 h4
 obtain⟨so,hso⟩:∃x,nY b.nx b.cards b.dead=x:=⟨_,rfl⟩
 obtain⟨go,hgo⟩:∃x,dK (-1) b.gr=x:=⟨_,rfl⟩
 rw[hso] at c1 hres
 rw[hgo] at c2 hres
 by_cases h0:so=true∧(0≤b.sq∧b.sq≤1099511627776)∧go=true
 rotate_left
 ·have e:res=false:=by
   rw[←hres]
   cases so<;>cases go<;>simp at h0 ⊢
   intro x y
   exact absurd y (by have:=h0 x;omega)
  subst e
  clear hres
  cases so<;>cases go
  all_goals
   repeat' (first|(with_reducible first|refine up c0 ?_|refine up c1 ?_|refine up c2 ?_)|(with_reducible first|(refine wT ?_;(first|((fail_if_success (have:=nl1));refine wN fun nl1 hnl=>?_)|((fail_if_success (have:=nl2));refine wN fun nl2 hnl=>?_)|((fail_if_success (have:=nl3));refine wN fun nl3 hnl=>?_)|((fail_if_success (have:=nl4));refine wN fun nl4 hnl=>?_)|((fail_if_success (have:=nl5));refine wN fun nl5 hnl=>?_)|refine wN fun _ hnl=>?_);revert hnl;(repeat refine wS fun _ _=>?_);intro hnl)|refine wE ?_|(refine wK ?_ ?_<;>intro h)|(refine wB ?_ ?_<;>intro h<;>simp only[h]))|simp(maxSteps:=4000000) (disch:=first|decide|assumption|omega|(simp only[wL];omega)) only[go_sem,simprocAttr,Tryz.f43])
   all_goals first|exact⟨_,St.le_refl _,rfl⟩|exact⟨_,St.le_refl _⟩|(exfalso;simp at h0;omega)
 ·obtain⟨rfl,⟨g1,g2⟩,rfl⟩:=h0
  rw[decide_eq_true ⟨g1,g2⟩,Bool.true_and,Bool.true_and,Bool.true_and] at hres
  repeat' (first|(with_reducible first|refine up c0 ?_|refine up c1 ?_|refine up c2 ?_)|(with_reducible first|(refine wT ?_;(first|((fail_if_success (have:=nl1));refine wN fun nl1 hnl=>?_)|((fail_if_success (have:=nl2));refine wN fun nl2 hnl=>?_)|((fail_if_success (have:=nl3));refine wN fun nl3 hnl=>?_)|((fail_if_success (have:=nl4));refine wN fun nl4 hnl=>?_)|((fail_if_success (have:=nl5));refine wN fun nl5 hnl=>?_)|refine wN fun _ hnl=>?_);revert hnl;(repeat refine wS fun _ _=>?_);intro hnl)|refine wE ?_|(refine wK ?_ ?_<;>intro h)|(refine wB ?_ ?_<;>intro h<;>simp only[h]))|simp(maxSteps:=4000000) (disch:=first|decide|assumption|omega|(simp only[wL];omega)) only[go_sem,simprocAttr,Tryz.f43])
  all_goals (try (exfalso;omega))
  refine aF (α:=Nat) (fun i=>⟨80,[(4,.int .i64 (i:Int)),(1,.ptr nl1 0 0)],[]⟩) (fun _=>St.none.set nl1 (.row 47 5 [b.c])) (fun i=>i≤b.dead.length∧∀d,d∈b.dead.take i→d.sq≤b.sq) (fun i=>b.dead.length - i) (.of (.less ?_ (St.aD (St.none_le _) (by simp[St.set, *]))) ⟨0,rfl,rfl,Nat.zero_le _,by simp⟩) ?_
  ·simp(maxSteps:=4000000) (disch:=first|decide|assumption|omega|(simp only[wL];omega)) only[go_sem,simprocAttr,aC,aB]
   all_goals rfl
  ·rintro i ⟨hi,hall⟩
   by_cases hlt:i<b.dead.length
   ·obtain⟨d,hd⟩:=bI b.dead hlt
    have hat:=bB (f:=DE.c) hd
    by_cases hb:d.sq≤b.sq
    ·repeat' (first|(with_reducible first|(refine wT ?_;(first|((fail_if_success (have:=nl1));refine wN fun nl1 hnl=>?_)|((fail_if_success (have:=nl2));refine wN fun nl2 hnl=>?_)|((fail_if_success (have:=nl3));refine wN fun nl3 hnl=>?_)|((fail_if_success (have:=nl4));refine wN fun nl4 hnl=>?_)|((fail_if_success (have:=nl5));refine wN fun nl5 hnl=>?_)|refine wN fun _ hnl=>?_);revert hnl;(repeat refine wS fun _ _=>?_);intro hnl)|refine wE ?_|(refine wK ?_ ?_<;>intro h)|(refine wB ?_ ?_<;>intro h<;>simp only[h]))|simp(maxSteps:=4000000) (disch:=first|decide|assumption|omega|(simp only[wL];omega)) only[go_sem,simprocAttr,hat])
     all_goals (try (exfalso;omega))
     all_goals
      refine .of (.less ?_ (St.le_refl _)) ⟨i+1,rfl,rfl,⟨by omega,fun e' h'=>?_⟩,by omega⟩
      ·simp(maxSteps:=4000000) (disch:=first|decide|assumption|omega|(simp only[wL];omega)) only[go_sem,simprocAttr,aC,aB]
       all_goals rfl
      ·rw[aV hd,List.mem_append,List.mem_singleton] at h'
       rcases h' with h'|rfl
       ·exact hall e' h'
       ·exact hb
    ·have hf:(b.dead.all fun d=>decide (d.sq≤b.sq))=false:=List.all_eq_false.2 ⟨d,cZ hd,by rw[decide_eq_false hb];simp⟩
     rw[hf,Bool.false_and] at hres
     subst hres
     repeat' (first|(with_reducible first|(refine wT ?_;(first|((fail_if_success (have:=nl1));refine wN fun nl1 hnl=>?_)|((fail_if_success (have:=nl2));refine wN fun nl2 hnl=>?_)|((fail_if_success (have:=nl3));refine wN fun nl3 hnl=>?_)|((fail_if_success (have:=nl4));refine wN fun nl4 hnl=>?_)|((fail_if_success (have:=nl5));refine wN fun nl5 hnl=>?_)|refine wN fun _ hnl=>?_);revert hnl;(repeat refine wS fun _ _=>?_);intro hnl)|refine wE ?_|(refine wK ?_ ?_<;>intro h)|(refine wB ?_ ?_<;>intro h<;>simp only[h]))|simp(maxSteps:=4000000) (disch:=first|decide|assumption|omega|(simp only[wL];omega)) only[go_sem,simprocAttr,hat])
     all_goals first|exact⟨_,St.le_refl _,rfl⟩|exact⟨_,St.le_refl _⟩|(exfalso;omega)
   ·have:i=b.dead.length:=by omega
    subst this
    rw[List.take_length] at hall
    have ht:(b.dead.all fun d=>decide (d.sq≤b.sq))=true:=List.all_eq_true.2 fun e h=>decide_eq_true (hall e h)
    rw[ht,Bool.true_and] at hres
    clear hall ht
    repeat' (first|(with_reducible first|(refine wT ?_;(first|((fail_if_success (have:=nl1));refine wN fun nl1 hnl=>?_)|((fail_if_success (have:=nl2));refine wN fun nl2 hnl=>?_)|((fail_if_success (have:=nl3));refine wN fun nl3 hnl=>?_)|((fail_if_success (have:=nl4));refine wN fun nl4 hnl=>?_)|((fail_if_success (have:=nl5));refine wN fun nl5 hnl=>?_)|refine wN fun _ hnl=>?_);revert hnl;(repeat refine wS fun _ _=>?_);intro hnl)|refine wE ?_|(refine wK ?_ ?_<;>intro h)|(refine wB ?_ ?_<;>intro h<;>simp only[h]))|simp(maxSteps:=4000000) (disch:=first|decide|assumption|omega|(simp only[wL];omega)) only[go_sem,simprocAttr])
    have hn1:nl3≠nl1:=by assumption
    refine aF (α:=Nat × Nat × List (List MV)) (fun s=>⟨80,[(6,.int .i64 (s.1:Int)),(5,.vec 1 s.2.1 0 s.1),(1,.ptr nl1 0 0)],[]⟩)
     (fun s=>(St.none.set nl1 (.row 47 5 [b.c])).set s.2.1 (.row 3 1 ((b.cards.take s.1).map (fun c=>aP c.id)++s.2.2))) (fun s=>s.1≤b.cards.length∧s.2.1≠nl1) (fun s=>b.cards.length - s.1) (.of (.less ?_ (St.le_refl _)) ⟨(0,nl3,[]),rfl,by simp,Nat.zero_le _,hn1⟩) ?_
    ·simp(maxSteps:=4000000) (disch:=first|decide|assumption|omega|(simp only[wL];omega)) only[go_sem,simprocAttr,aC,aB]
     all_goals first|rfl|(simp[aB];done)
    ·rintro⟨i,q,ex⟩ ⟨hi,hq⟩
     simp only at hi hq ⊢
     have hq':=Ne.symm hq
     by_cases hlt:i<b.cards.length
     ·obtain⟨x,hx⟩:=bI b.cards hlt
      have hat:=bB (f:=CA.c) hx
      have hsn:=aV hx
      have htl:(b.cards.take i).length=i:=by rw[List.length_take];omega
      obtain⟨L,hL⟩:∃L,b.cards.take i=L:=⟨_,rfl⟩
      rw[hL] at hsn htl ⊢
      have htk:(L.map (fun c=>aP c.id)++ex).take i=L.map (fun c=>aP c.id):=by rw[←htl];exact jV
      have hdr:(L.map (fun c=>aP c.id)++ex).drop (i+1)=ex.drop 1:=by rw[←htl];exact kI
      have hLl:(L.map (fun c:CA=>aP c.id)).length=i:=by rw[List.length_map,htl]
      repeat' (first|(with_reducible first|(refine wT ?_;(first|((fail_if_success (have:=nl1));refine wN fun nl1 hnl=>?_)|((fail_if_success (have:=nl2));refine wN fun nl2 hnl=>?_)|((fail_if_success (have:=nl3));refine wN fun nl3 hnl=>?_)|((fail_if_success (have:=nl4));refine wN fun nl4 hnl=>?_)|((fail_if_success (have:=nl5));refine wN fun nl5 hnl=>?_)|refine wN fun _ hnl=>?_);revert hnl;(repeat refine wS fun _ _=>?_);intro hnl)|refine wE ?_|(refine wK ?_ ?_<;>intro h)|(refine wB ?_ ?_<;>intro h<;>simp only[h]))|simp(maxSteps:=4000000) (disch:=first|decide|assumption|omega|(simp only[wL];omega)) only[go_sem,simprocAttr,FXs,hat,htk,hdr,hLl,htl])
      ·have hex:ex=[]:=List.eq_nil_of_length_eq_zero (by omega)
       subst hex
       refine .of (.less ?_ (σ1:=(St.none.set nl1 (.row 47 5 [b.c])).set nl5 (.row 3 1 (L.map (fun c=>aP c.id)++[]++[aP x.id]))) (le2 (by simp[St.set, *]) (by simp[St.set, *]))) ⟨(i+1,nl5,[]),rfl,by simp[hsn],⟨by simp only;omega,by assumption⟩,by simp only;omega⟩
       simp(maxSteps:=4000000) (disch:=first|decide|assumption|omega|(simp only[wL];omega)) only[go_sem,simprocAttr,aC,aB]
       all_goals first|rfl|(simp[aB];done)
      ·refine .of (.less ?_ (σ1:=(St.none.set nl1 (.row 47 5 [b.c])).set nl5 (.row 3 1 (L.map (fun c=>aP c.id)++[aP x.id]++ex.drop 1))) (le2 (by simp[St.set, *]) (by simp[St.set, *]))) ⟨(i+1,nl5,ex.drop 1),rfl,by simp[hsn],⟨by simp only;omega,by assumption⟩,by simp only;omega⟩
       simp(maxSteps:=4000000) (disch:=first|decide|assumption|omega|(simp only[wL];omega)) only[go_sem,simprocAttr,aC,aB]
       all_goals first|rfl|(simp[aB];done)
     ·have:i=b.cards.length:=by omega
      subst this
      rw[List.take_length]
      repeat' (first|(with_reducible first|(refine wT ?_;(first|((fail_if_success (have:=nl1));refine wN fun nl1 hnl=>?_)|((fail_if_success (have:=nl2));refine wN fun nl2 hnl=>?_)|((fail_if_success (have:=nl3));refine wN fun nl3 hnl=>?_)|((fail_if_success (have:=nl4));refine wN fun nl4 hnl=>?_)|((fail_if_success (have:=nl5));refine wN fun nl5 hnl=>?_)|refine wN fun _ hnl=>?_);revert hnl;(repeat refine wS fun _ _=>?_);intro hnl)|refine wE ?_|(refine wK ?_ ?_<;>intro h)|(refine wB ?_ ?_<;>intro h<;>simp only[h]))|simp(maxSteps:=4000000) (disch:=first|decide|assumption|omega|(simp only[wL];omega)) only[go_sem,simprocAttr])
      have hK:(b.cards.map fun c=>aP c.id)=(b.cards.map CA.id).map aP:=by rw[List.map_map];rfl
      rw[hK]
      refine aF (α:=Nat) (fun i=>⟨80,[(7,.int .i64 (i:Int)),(5,.lst 1 ((b.cards.map CA.id).map aP) false),(1,.ptr nl1 0 0)],[]⟩) (fun _=>St.none.set nl1 (.row 47 5 [b.c])) (fun i=>i≤b.gr.length∧∀g,g∈b.gr.take i→b9 g.mem (b.cards.map CA.id)=[]) (fun i=>b.gr.length - i) (.of (bM.MA (by simp[St.set,St.none, *]) ?_) ⟨0,rfl,rfl,Nat.zero_le _,by simp⟩) ?_
      ·intro p hp
       simp only[List.mem_cons,List.not_mem_nil,or_false] at hp
       rcases hp with rfl|rfl|rfl
       ·exact .same _
       ·exact eH (aJ _ _ _) (by simp)
       ·exact .same _
      ·rintro i ⟨hi,hall⟩
       by_cases hlt:i<b.gr.length
       ·obtain⟨g,hg⟩:=bI b.gr hlt
        have hat:=bB (f:=GR.c) hg
        have hm:=Dn g.mem (b.cards.map CA.id) false false (h4 g (cZ hg)) (by simpa using h1)
        obtain⟨M,hM⟩:∃M,b9 g.mem (b.cards.map CA.id)=M:=⟨_,rfl⟩
        rw[hM] at hm
        have hMl:(M.map aP).length=M.length:=List.length_map _
        by_cases hb:M=[]
        ·subst hb
         repeat' (first|(with_reducible first|refine up hm ?_)|(with_reducible first|(refine wT ?_;(first|((fail_if_success (have:=nl1));refine wN fun nl1 hnl=>?_)|((fail_if_success (have:=nl2));refine wN fun nl2 hnl=>?_)|((fail_if_success (have:=nl3));refine wN fun nl3 hnl=>?_)|((fail_if_success (have:=nl4));refine wN fun nl4 hnl=>?_)|((fail_if_success (have:=nl5));refine wN fun nl5 hnl=>?_)|refine wN fun _ hnl=>?_);revert hnl;(repeat refine wS fun _ _=>?_);intro hnl)|refine wE ?_|(refine wK ?_ ?_<;>intro h)|(refine wB ?_ ?_<;>intro h<;>simp only[h]))|simp(maxSteps:=4000000) (disch:=first|decide|assumption|omega|(simp only[wL];omega)) only[go_sem,simprocAttr,hat])
         all_goals (try (exfalso;omega))
         all_goals
          refine .of (.less ?_ (St.le_refl _)) ⟨i+1,rfl,rfl,⟨by omega,fun e' h'=>?_⟩,by omega⟩
          ·simp(maxSteps:=4000000) (disch:=first|decide|assumption|omega|(simp only[wL];omega)) only[go_sem,simprocAttr,aC,aB]
           all_goals rfl
          ·rw[aV hg,List.mem_append,List.mem_singleton] at h'
           rcases h' with h'|rfl
           ·exact hall e' h'
           ·exact hM
        ·have hf:(b.gr.all fun g=>decide (b9 g.mem (b.cards.map CA.id)=[]))=false:=List.all_eq_false.2 ⟨g,cZ hg,by rw[hM,decide_eq_false hb];simp⟩
         rw[hf] at hres
         subst hres
         have hpos:0<M.length:=List.length_pos_iff.2 hb
         repeat' (first|(with_reducible first|refine up hm ?_)|(with_reducible first|(refine wT ?_;(first|((fail_if_success (have:=nl1));refine wN fun nl1 hnl=>?_)|((fail_if_success (have:=nl2));refine wN fun nl2 hnl=>?_)|((fail_if_success (have:=nl3));refine wN fun nl3 hnl=>?_)|((fail_if_success (have:=nl4));refine wN fun nl4 hnl=>?_)|((fail_if_success (have:=nl5));refine wN fun nl5 hnl=>?_)|refine wN fun _ hnl=>?_);revert hnl;(repeat refine wS fun _ _=>?_);intro hnl)|refine wE ?_|(refine wK ?_ ?_<;>intro h)|(refine wB ?_ ?_<;>intro h<;>simp only[h]))|simp(maxSteps:=4000000) (disch:=first|decide|assumption|omega|(simp only[wL];omega)) only[go_sem,simprocAttr,hat,hMl])
         all_goals first|exact⟨_,St.le_refl _,rfl⟩|exact⟨_,St.le_refl _⟩|(exfalso;omega)
       ·have:i=b.gr.length:=by omega
        subst this
        rw[List.take_length] at hall
        have ht:(b.gr.all fun g=>decide (b9 g.mem (b.cards.map CA.id)=[]))=true:=List.all_eq_true.2 fun e h=>decide_eq_true (hall e h)
        rw[ht] at hres
        subst hres
        repeat' (first|(with_reducible first|(refine wT ?_;(first|((fail_if_success (have:=nl1));refine wN fun nl1 hnl=>?_)|((fail_if_success (have:=nl2));refine wN fun nl2 hnl=>?_)|((fail_if_success (have:=nl3));refine wN fun nl3 hnl=>?_)|((fail_if_success (have:=nl4));refine wN fun nl4 hnl=>?_)|((fail_if_success (have:=nl5));refine wN fun nl5 hnl=>?_)|refine wN fun _ hnl=>?_);revert hnl;(repeat refine wS fun _ _=>?_);intro hnl)|refine wE ?_|(refine wK ?_ ?_<;>intro h)|(refine wB ?_ ?_<;>intro h<;>simp only[h]))|simp(maxSteps:=4000000) (disch:=first|decide|assumption|omega|(simp only[wL];omega)) only[go_sem,simprocAttr])
        all_goals first|exact⟨_,St.le_refl _,rfl⟩|exact⟨_,St.le_refl _⟩
end

section
set_option maxRecDepth 100000
set_option maxHeartbeats 8000000
theorem sH{gr:List GR}(hg:dK (-1) gr=true){fl:List ND}(hp:bF fl=0){c:CA}(hc:cW c=true)(id:Int)(hid:c.id=id)(tt:Bool):aA Tryz.prog 90 [.lst 5 (fl.map ND.c) tt,.agg c.c,.int .u32 (grB gr id:Int)] St.none (fun r _=>r=.bool (dG gr fl c)):=by
 obtain⟨h1,h2,h3⟩:=tA hp
 have hg':=Gj hg id
 have:=kC (mA c) ⟨c.f.h,tL hc,c.lab.toNat_lt⟩ (grB gr id) (by omega) (nA fl) h1 (by rw[h2];omega) tt
 rw[h2] at this
 unfold dG
 rw[hid]
 exact this
theorem Fq(cs:List CA)(hl:cs.length≤1000000)(tt:Bool)(id:Int):aA Tryz.prog 238 [.lst 27 (cs.map CA.c) tt,.int .i64 id] St.none (fun r _=>r=.tup [.agg ((cs.find? fun c=>decide (c.id=id)).getD ca0).c,.bool (cs.find? fun c=>decide (c.id=id)).isSome]):=by
 refine aA.bZ (aA.body 25 [.cell 4 126,.tmp 5] Tryz.func238 rfl rfl rfl rfl ?_)
 repeat' (first|(with_reducible first|(refine wT ?_;(first|((fail_if_success (have:=nl1));refine wN fun nl1 hnl=>?_)|refine wN fun _ hnl=>?_);revert hnl;(repeat refine wS fun _ _=>?_);intro hnl)|refine wE ?_|(refine wK ?_ ?_<;>intro h)|(refine wB ?_ ?_<;>intro h<;>simp only[h]))|simp(maxSteps:=4000000) (disch:=first|exact ddL|fail) only[go_sem,simprocAttr,Tryz.f238])
 refine aF (α:=Nat) (fun i=>⟨25,[(6,.int .i64 (i:Int)),(5,.bool false),(4,.ptr nl1 0 0),(0,.lst 27 (cs.map CA.c) tt),(1,.int .i64 id)],[]⟩) (fun _=>St.none.set nl1 (.row 126 27 [ca0.c])) (fun i=>i≤cs.length∧∀c,c∈cs.take i→c.id≠id) (fun i=>cs.length - i) (.of (.less ?_ (St.le_refl _)) ⟨0,rfl,rfl,Nat.zero_le _,by simp⟩) ?_
 ·simp(maxSteps:=4000000) (disch:=first|exact ddL|fail) only[go_sem,simprocAttr,aC,aB]
  all_goals rfl
 ·rintro i ⟨hi,hq⟩
  by_cases hlt:i<cs.length
  ·obtain⟨y,hy⟩:=bI cs hlt
   have hat:=bB (f:=CA.c) hy
   by_cases he:y.id=id
   ·rw[Ht hq hy he]
    subst he
    simp only[Option.getD_some,Option.isSome_some]
    repeat' (first|(with_reducible first|(refine wT ?_;(first|((fail_if_success (have:=nl1));refine wN fun nl1 hnl=>?_)|refine wN fun _ hnl=>?_);revert hnl;(repeat refine wS fun _ _=>?_);intro hnl)|refine wE ?_|(refine wK ?_ ?_<;>intro h)|(refine wB ?_ ?_<;>intro h<;>simp only[h]))|simp(maxSteps:=4000000) (disch:=first|exact ddL|fail) only[go_sem,simprocAttr,FXs,hat])
    all_goals first|exact⟨_,St.le_refl _,rfl⟩|exact⟨_,St.le_refl _⟩|(exfalso;omega)|skip
   ·repeat' (first|(with_reducible first|(refine wT ?_;(first|((fail_if_success (have:=nl1));refine wN fun nl1 hnl=>?_)|refine wN fun _ hnl=>?_);revert hnl;(repeat refine wS fun _ _=>?_);intro hnl)|refine wE ?_|(refine wK ?_ ?_<;>intro h)|(refine wB ?_ ?_<;>intro h<;>simp only[h]))|simp(maxSteps:=4000000) (disch:=first|exact ddL|fail) only[go_sem,simprocAttr,FXs,hat])
    all_goals (try (exfalso;omega))
    all_goals
     refine .of (.less ?_ (St.le_refl _)) ⟨i+1,rfl,rfl,⟨by omega,fun c h'=>?_⟩,by omega⟩
     ·simp(maxSteps:=4000000) (disch:=first|exact ddL|fail) only[go_sem,simprocAttr,aC,aB]
      all_goals rfl
     ·rw[aV hy,List.mem_append,List.mem_singleton] at h'
      rcases h' with h'|rfl
      ·exact hq c h'
      ·exact he
  ·have:i=cs.length:=by omega
   subst this
   rw[List.take_length] at hq
   have hn:cs.find? (fun c=>decide (c.id=id))=none:=List.find?_eq_none.2 fun x hx=>by simpa using hq x hx
   rw[hn]
   repeat' (first|(with_reducible first|(refine wT ?_;(first|((fail_if_success (have:=nl1));refine wN fun nl1 hnl=>?_)|refine wN fun _ hnl=>?_);revert hnl;(repeat refine wS fun _ _=>?_);intro hnl)|refine wE ?_|(refine wK ?_ ?_<;>intro h)|(refine wB ?_ ?_<;>intro h<;>simp only[h]))|simp(maxSteps:=4000000) (disch:=first|exact ddL|fail) only[go_sem,simprocAttr,FXs])
   all_goals first|exact⟨_,St.le_refl _,rfl⟩|exact⟨_,St.le_refl _⟩|(exfalso;omega)|skip
theorem vY(c:CA)(m:UInt32):aA Tryz.prog 92 [.agg c.c,.int .u32 (m.toNat:Int)] St.none (fun r _=>r=.agg (cC c m).c):=by
 refine aA.bZ (aA.body 32 [.cell 4 126] Tryz.func92 rfl rfl rfl rfl ?_)
 have hml:=Fu m
 obtain⟨ml,hm8⟩:∃b,bit m.toNat 8=b:=⟨_,rfl⟩
 rw[hm8] at hml
 have hlab:(cC c m).c=.int .i64 c.id::.int .i64 c.ver::.int .u32 (((if ml=true then c.lab else 0:UInt32).toNat:Nat):Int)::fc (iV c.f m.toNat 8):=by rw[←hm8];rfl
 rw[hlab]
 clear hm8 hlab
 obtain⟨lb,hlb⟩:∃lb:UInt32,(if ml=true then c.lab else 0)=lb:=⟨_,rfl⟩
 rw[hlb]
 have hb:∀i:Nat,i<8→aA Tryz.prog 178 [.int .u32 (m.toNat:Int),.int .i64 (i:Int)] St.none (fun r _=>r=.bool (bit m.toNat i)):=fun i h=>zO m i (by omega)
 cases ml
 all_goals simp only[Bool.false_eq_true,if_false,if_true] at hlb
 ·subst hlb
  repeat' (first|(with_reducible first|refine up hml ?_)|(with_reducible first|(refine wT ?_;(first|((fail_if_success (have:=nl1));refine wN fun nl1 hnl=>?_)|((fail_if_success (have:=nl2));refine wN fun nl2 hnl=>?_)|((fail_if_success (have:=nl3));refine wN fun nl3 hnl=>?_)|refine wN fun _ hnl=>?_);revert hnl;(repeat refine wS fun _ _=>?_);intro hnl)|refine wE ?_|(refine wK ?_ ?_<;>intro h)|(refine wB ?_ ?_<;>intro h<;>simp only[h]))|simp(maxSteps:=4000000) (disch:=first|exact ddL|fail) only[go_sem,simprocAttr,Tryz.f92,FXs])
  refine aF (α:=Nat) (fun i=>⟨32,[(6,.int .i64 (i:Int)),(5,.ptr nl3 0 0),(4,.ptr nl2 0 0),(2,.ptr nl1 0 0),(1,.int .u32 (m.toNat:Int))],[]⟩)
   (fun i=>((St.none.set nl1 (.row 126 27 [c.c])).set nl2 (.row 126 27 [ca0.c])).set nl3 (.row 126 27 [.int .i64 c.id::.int .i64 c.ver::.int .u32 ((0:UInt32).toNat:Int)::fc (iV c.f m.toNat i)])) (fun i=>i≤8) (fun i=>8 - i) (.of (.less ?_ (St.le_refl _)) ⟨0,rfl,rfl,Nat.zero_le _⟩) ?_
  ·simp(maxSteps:=4000000) (disch:=first|exact ddL|fail) only[go_sem,simprocAttr,aC,aB]
   all_goals rfl
  ·rintro i hi
   by_cases h8:i<8
   ·have hbi:=hb i h8
    have hsucc:iV c.f m.toNat (i+1)=if bit m.toNat i=true then(iV c.f m.toNat i).set i (c.f.get i) else iV c.f m.toNat i:=rfl
    obtain⟨g,hg⟩:∃g,iV c.f m.toNat i=g:=⟨_,rfl⟩
    rw[hg] at hsucc ⊢
    cases hbb:bit m.toNat i<;>rw[hbb] at hbi hsucc
    ·rw[if_neg (by simp)] at hsucc
     repeat' (first|(with_reducible first|refine up hbi ?_)|(with_reducible first|(refine wT ?_;(first|((fail_if_success (have:=nl1));refine wN fun nl1 hnl=>?_)|((fail_if_success (have:=nl2));refine wN fun nl2 hnl=>?_)|((fail_if_success (have:=nl3));refine wN fun nl3 hnl=>?_)|refine wN fun _ hnl=>?_);revert hnl;(repeat refine wS fun _ _=>?_);intro hnl)|refine wE ?_|(refine wK ?_ ?_<;>intro h)|(refine wB ?_ ?_<;>intro h<;>simp only[h]))|simp(maxSteps:=4000000) (disch:=first|exact ddL|fail) only[go_sem,simprocAttr,FXs])
     all_goals (try (exfalso;omega))
     all_goals
      refine .of (.less ?_ (St.le_refl _)) ⟨i+1,rfl,by rw[hsucc],by omega,by omega⟩
      simp(maxSteps:=4000000) (disch:=first|exact ddL|fail) only[go_sem,simprocAttr,aC,aB]
      all_goals rfl
    ·rw[if_pos rfl] at hsucc
     repeat' (first|(with_reducible first|refine up hbi ?_)|(with_reducible first|(refine wT ?_;(first|((fail_if_success (have:=nl1));refine wN fun nl1 hnl=>?_)|((fail_if_success (have:=nl2));refine wN fun nl2 hnl=>?_)|((fail_if_success (have:=nl3));refine wN fun nl3 hnl=>?_)|refine wN fun _ hnl=>?_);revert hnl;(repeat refine wS fun _ _=>?_);intro hnl)|refine wE ?_|(refine wK ?_ ?_<;>intro h)|(refine wB ?_ ?_<;>intro h<;>simp only[h]))|simp(maxSteps:=4000000) (disch:=first|exact ddL|fail) only[go_sem,simprocAttr,FXs])
     all_goals (try (exfalso;omega))
     all_goals
      refine .of (.less ?_ (St.le_refl _)) ⟨i+1,rfl,by rw[hsucc];first|rfl|skip,by omega,by omega⟩
      simp(maxSteps:=4000000) (disch:=first|exact ddL|fail) only[go_sem,simprocAttr,aC,aB]
      all_goals rfl
   ·have:i=8:=by omega
    subst this
    repeat' (first|(with_reducible first|(refine wT ?_;(first|((fail_if_success (have:=nl1));refine wN fun nl1 hnl=>?_)|((fail_if_success (have:=nl2));refine wN fun nl2 hnl=>?_)|((fail_if_success (have:=nl3));refine wN fun nl3 hnl=>?_)|refine wN fun _ hnl=>?_);revert hnl;(repeat refine wS fun _ _=>?_);intro hnl)|refine wE ?_|(refine wK ?_ ?_<;>intro h)|(refine wB ?_ ?_<;>intro h<;>simp only[h]))|simp(maxSteps:=4000000) (disch:=first|exact ddL|fail) only[go_sem,simprocAttr,FXs])
    all_goals first|exact⟨_,St.le_refl _,rfl⟩|exact⟨_,St.le_refl _⟩
 ·subst hlb
  repeat' (first|(with_reducible first|refine up hml ?_)|(with_reducible first|(refine wT ?_;(first|((fail_if_success (have:=nl1));refine wN fun nl1 hnl=>?_)|((fail_if_success (have:=nl2));refine wN fun nl2 hnl=>?_)|((fail_if_success (have:=nl3));refine wN fun nl3 hnl=>?_)|refine wN fun _ hnl=>?_);revert hnl;(repeat refine wS fun _ _=>?_);intro hnl)|refine wE ?_|(refine wK ?_ ?_<;>intro h)|(refine wB ?_ ?_<;>intro h<;>simp only[h]))|simp(maxSteps:=4000000) (disch:=first|exact ddL|fail) only[go_sem,simprocAttr,Tryz.f92,FXs])
  refine aF (α:=Nat) (fun i=>⟨32,[(6,.int .i64 (i:Int)),(5,.ptr nl3 0 0),(4,.ptr nl2 0 0),(2,.ptr nl1 0 0),(1,.int .u32 (m.toNat:Int))],[]⟩)
   (fun i=>((St.none.set nl1 (.row 126 27 [c.c])).set nl2 (.row 126 27 [ca0.c])).set nl3 (.row 126 27 [.int .i64 c.id::.int .i64 c.ver::.int .u32 (c.lab.toNat:Int)::fc (iV c.f m.toNat i)])) (fun i=>i≤8) (fun i=>8 - i) (.of (.less ?_ (St.le_refl _)) ⟨0,rfl,rfl,Nat.zero_le _⟩) ?_
  ·simp(maxSteps:=4000000) (disch:=first|exact ddL|fail) only[go_sem,simprocAttr,aC,aB]
   all_goals rfl
  ·rintro i hi
   by_cases h8:i<8
   ·have hbi:=hb i h8
    have hsucc:iV c.f m.toNat (i+1)=if bit m.toNat i=true then(iV c.f m.toNat i).set i (c.f.get i) else iV c.f m.toNat i:=rfl
    obtain⟨g,hg⟩:∃g,iV c.f m.toNat i=g:=⟨_,rfl⟩
    rw[hg] at hsucc ⊢
    cases hbb:bit m.toNat i<;>rw[hbb] at hbi hsucc
    ·rw[if_neg (by simp)] at hsucc
     repeat' (first|(with_reducible first|refine up hbi ?_)|(with_reducible first|(refine wT ?_;(first|((fail_if_success (have:=nl1));refine wN fun nl1 hnl=>?_)|((fail_if_success (have:=nl2));refine wN fun nl2 hnl=>?_)|((fail_if_success (have:=nl3));refine wN fun nl3 hnl=>?_)|refine wN fun _ hnl=>?_);revert hnl;(repeat refine wS fun _ _=>?_);intro hnl)|refine wE ?_|(refine wK ?_ ?_<;>intro h)|(refine wB ?_ ?_<;>intro h<;>simp only[h]))|simp(maxSteps:=4000000) (disch:=first|exact ddL|fail) only[go_sem,simprocAttr,FXs])
     all_goals (try (exfalso;omega))
     all_goals
      refine .of (.less ?_ (St.le_refl _)) ⟨i+1,rfl,by rw[hsucc],by omega,by omega⟩
      simp(maxSteps:=4000000) (disch:=first|exact ddL|fail) only[go_sem,simprocAttr,aC,aB]
      all_goals rfl
    ·rw[if_pos rfl] at hsucc
     repeat' (first|(with_reducible first|refine up hbi ?_)|(with_reducible first|(refine wT ?_;(first|((fail_if_success (have:=nl1));refine wN fun nl1 hnl=>?_)|((fail_if_success (have:=nl2));refine wN fun nl2 hnl=>?_)|((fail_if_success (have:=nl3));refine wN fun nl3 hnl=>?_)|refine wN fun _ hnl=>?_);revert hnl;(repeat refine wS fun _ _=>?_);intro hnl)|refine wE ?_|(refine wK ?_ ?_<;>intro h)|(refine wB ?_ ?_<;>intro h<;>simp only[h]))|simp(maxSteps:=4000000) (disch:=first|exact ddL|fail) only[go_sem,simprocAttr,FXs])
     all_goals (try (exfalso;omega))
     all_goals
      refine .of (.less ?_ (St.le_refl _)) ⟨i+1,rfl,by rw[hsucc];first|rfl|skip,by omega,by omega⟩
      simp(maxSteps:=4000000) (disch:=first|exact ddL|fail) only[go_sem,simprocAttr,aC,aB]
      all_goals rfl
   ·have:i=8:=by omega
    subst this
    repeat' (first|(with_reducible first|(refine wT ?_;(first|((fail_if_success (have:=nl1));refine wN fun nl1 hnl=>?_)|((fail_if_success (have:=nl2));refine wN fun nl2 hnl=>?_)|((fail_if_success (have:=nl3));refine wN fun nl3 hnl=>?_)|refine wN fun _ hnl=>?_);revert hnl;(repeat refine wS fun _ _=>?_);intro hnl)|refine wE ?_|(refine wK ?_ ?_<;>intro h)|(refine wB ?_ ?_<;>intro h<;>simp only[h]))|simp(maxSteps:=4000000) (disch:=first|exact ddL|fail) only[go_sem,simprocAttr,FXs])
    all_goals first|exact⟨_,St.le_refl _,rfl⟩|exact⟨_,St.le_refl _⟩
end

section
set_option maxRecDepth 100000
set_option maxHeartbeats 8000000
theorem Dq(b:BK)(hb:BkR b)(h3:b.gr.length≤1000000)(h4:∀g,g∈b.gr→g.mem.length≤1000000)(fl:List ND)(hp:bF fl=0)(tt:Bool)(id:Int) :
  aA Tryz.prog 183 [.agg b.c,.lst 5 (fl.map ND.c) tt,.int .i64 id] St.none (fun r _=>r=.tup [.agg ((shown b fl id).getD ca0).c,.bool (shown b fl id).isSome]):=by
 refine aA.bZ (aA.body 31 [.cell 6 126,.tmp 7] Tryz.func183 rfl rfl rfl rfl ?_)
 have hf:=Fq b.cards (by have:=hb.nc;omega) false id
 have ho:=vT b.gr false h3 h4 hb.gok id
 unfold shown
 cases hfi:b.cards.find? (fun c=>decide (c.id=id)) with
 | none =>
  rw[hfi] at hf
  simp only[Option.getD_none,Option.isSome_none] at hf ⊢
  repeat' (first|(with_reducible first|refine up hf ?_)|(with_reducible first|(refine wN fun _ hnl=>?_;revert hnl;(repeat refine wS fun _ _=>?_);intro hnl)|refine wE ?_|(refine wK ?_ ?_<;>intro h)|(refine wB ?_ ?_<;>intro h<;>simp only[h]))|simp(maxSteps:=4000000) (disch:=first|decide|assumption|omega|(simp only[wL];omega)) only[go_sem,simprocAttr,Tryz.f183,FXs])
  obtain⟨C,c1⟩:∃C:bR,∀ms,C 91 ms=some ⟨[],fun v=>v=.bool true,none⟩:=⟨tV 91 (.bool true),fun _=>gJ⟩
  refine aK mixed (by decide +kernel) C ?_
  repeat' (first|(with_reducible first|(refine wN fun _ hnl=>?_;revert hnl;(repeat refine wS fun _ _=>?_);intro hnl)|refine wE ?_|(refine wK ?_ ?_<;>intro h)|(refine wB ?_ ?_<;>intro h<;>simp only[h]))|simp(maxSteps:=4000000) (disch:=first|decide|assumption|omega|(simp only[wL];omega)) only[go_sem,simprocAttr,FXs])
  all_goals first|exact⟨_,St.le_refl _,rfl⟩|exact⟨_,St.le_refl _⟩
 | some c =>
  rw[hfi] at hf
  have hcm:=List.mem_of_find?_eq_some hfi
  have hid:c.id=id:=by simpa using List.find?_some hfi
  have hm:=sH hb.gok hp (pN hb hcm).1 id hid tt
  simp only[Option.getD_some,Option.isSome_some] at hf ⊢
  obtain⟨C,c1,c2⟩:∃C:bR,(∀ms,C 91 ms=some ⟨[],fun v=>v=.int .u32 (grB b.gr id:Int),none⟩)∧∀ms,C 90 ms=some ⟨[],fun v=>v=.bool (dG b.gr fl c),none⟩ :=
   ⟨fnF [(91,⟨[],fun v=>v=.int .u32 (grB b.gr id:Int),none⟩),(90,⟨[],fun v=>v=.bool (dG b.gr fl c),none⟩)],fun _=>bO,fun _=>bC bO⟩
  obtain⟨sb,hsb⟩:∃x,dG b.gr fl c=x:=⟨_,rfl⟩
  rw[hsb] at hm c2 ⊢
  obtain⟨gb,hgb⟩:∃x,grB b.gr id=x:=⟨_,rfl⟩
  rw[hgb] at hm ho c1
  repeat' (first|(with_reducible first|refine up hf ?_)|(with_reducible first|(refine wN fun _ hnl=>?_;revert hnl;(repeat refine wS fun _ _=>?_);intro hnl)|refine wE ?_|(refine wK ?_ ?_<;>intro h)|(refine wB ?_ ?_<;>intro h<;>simp only[h]))|simp(maxSteps:=4000000) (disch:=first|decide|assumption|omega|(simp only[wL];omega)) only[go_sem,simprocAttr,Tryz.f183,FXs])
  refine aK mixed (by decide +kernel) C ?_
  cases sb
  all_goals
   repeat' (first|(with_reducible refine aI (c1 _) ho ?_)|(with_reducible refine aI (c2 _) hm ?_)|(with_reducible first|(refine wN fun _ hnl=>?_;revert hnl;(repeat refine wS fun _ _=>?_);intro hnl)|refine wE ?_|(refine wK ?_ ?_<;>intro h)|(refine wB ?_ ?_<;>intro h<;>simp only[h]))|simp(maxSteps:=4000000) (disch:=first|decide|assumption|omega|(simp only[wL];omega)) only[go_sem,simprocAttr,FXs])
   all_goals first|exact⟨_,St.le_refl _,rfl⟩|exact⟨_,St.le_refl _⟩
theorem Jf(b:BK)(hb:BkR b)(h3:b.gr.length≤1000000)(h4:∀g,g∈b.gr→g.mem.length≤1000000)(fl:List ND)(hp:bF fl=0)(tt:Bool)(id:Int) :
  aA Tryz.prog 117 [.agg b.c,.lst 5 (fl.map ND.c) tt,.int .i64 id] St.none (fun r _=>r=.int .i64 (nE b fl id)):=by
 refine aA.bZ (aA.body 18 [.tmp 6] Tryz.func117 rfl rfl rfl rfl ?_)
 have hs:=Dq b hb h3 h4 fl hp tt id
 unfold nE
 obtain⟨x,hx⟩:∃x,(shown b fl id).getD ca0=x:=⟨_,rfl⟩
 obtain⟨y,hy⟩:∃x,(shown b fl id).isSome=x:=⟨_,rfl⟩
 rw[hx,hy] at hs
 rw[hx]
 repeat' (first|(with_reducible first|refine up hs ?_)|(with_reducible first|(refine wN fun _ hnl=>?_;revert hnl;(repeat refine wS fun _ _=>?_);intro hnl)|refine wE ?_|(refine wK ?_ ?_<;>intro h)|(refine wB ?_ ?_<;>intro h<;>simp only[h]))|simp(maxSteps:=4000000) (disch:=first|decide|assumption|omega|(simp only[wL];omega)) only[go_sem,simprocAttr,Tryz.f117,FXs])
 all_goals first|exact⟨_,St.le_refl _,rfl⟩|exact⟨_,St.le_refl _⟩
theorem BH{α:Type}{l:List α}{p:α→Bool}{i:Nat}{x:α}(h:l[i]?=some x):(l.take (i+1)).filter p=(l.take i).filter p++if p x=true then[x] else[]:=by
 rw[aV h,List.filter_append,List.filter_cons]
 split<;>simp
theorem Dk(b:BK)(hb:BkR b)(h3:b.gr.length≤1000000)(h4:∀g,g∈b.gr→g.mem.length≤1000000)(fl:List ND)(hp:bF fl=0)(tt:Bool)(m:UInt32)(cur:Int) :
  aA Tryz.prog 23 [.agg b.c,.lst 5 (fl.map ND.c) tt,.int .u32 (m.toNat:Int),.int .i64 cur] St.none (fun r _=>r=.lst 27 ((oT b fl m cur).map CA.c) false):=by
 refine aA.seen (aA.body 46 [.tmp 8] Tryz.func23 rfl rfl rfl rfl ?_)
 unfold oT
 rw[List.map_map]
 obtain⟨P,hP⟩:∃P:CA→Bool,(fun c:CA=>decide (c.id≤cur)&&dG b.gr fl c)=P:=⟨_,rfl⟩
 have hPx:∀c:CA,P c=(decide (c.id≤cur)&&dG b.gr fl c):=fun c=>by rw[←hP]
 rw[hP]
 clear hP
 obtain⟨pj,hpj⟩:∃f:CA→List MV,(CA.c ∘ fun c=>cC c m)=f:=⟨_,rfl⟩
 have hpx:∀c:CA,pj c=(cC c m).c:=fun c=>by rw[←hpj];rfl
 rw[hpj]
 clear hpj
 have hcl:=hb.nc
 repeat' (first|(with_reducible first|(refine wT ?_;(first|((fail_if_success (have:=nl1));refine wN fun nl1 hnl=>?_)|((fail_if_success (have:=nl2));refine wN fun nl2 hnl=>?_)|((fail_if_success (have:=nl3));refine wN fun nl3 hnl=>?_)|((fail_if_success (have:=nl4));refine wN fun nl4 hnl=>?_)|((fail_if_success (have:=nl5));refine wN fun nl5 hnl=>?_)|refine wN fun _ hnl=>?_);revert hnl;(repeat refine wS fun _ _=>?_);intro hnl)|refine wE ?_|(refine wK ?_ ?_<;>intro h)|(refine wB ?_ ?_<;>intro h<;>simp only[h]))|simp(maxSteps:=4000000) (disch:=first|decide|assumption|omega|(simp only[wL];omega)) only[go_sem,simprocAttr,Tryz.f23])
 refine aF (α:=Nat × Nat × List (List MV)) (fun s=>⟨46,[(10,.int .i64 (s.1:Int)),(9,.vec 27 s.2.1 0 ((b.cards.take s.1).filter P).length),(4,.ptr nl1 0 0),(1,.lst 5 (fl.map ND.c) tt),(2,.int .u32 (m.toNat:Int)),(3,.int .i64 cur)],[]⟩)
  (fun s=>(St.none.set nl1 (.row 47 5 [b.c])).set s.2.1 (.row 126 27 (((b.cards.take s.1).filter P).map pj++s.2.2))) (fun s=>s.1≤b.cards.length∧s.2.1≠nl1) (fun s=>b.cards.length - s.1) ?_ ?_
 ·refine .of (.less ?_ (St.le_refl _)) ⟨(0,nl2,[]),rfl,by simp,Nat.zero_le _,by assumption⟩
  simp(maxSteps:=4000000) (disch:=first|decide|assumption|omega|(simp only[wL];omega)) only[go_sem,simprocAttr,aC,aB]
  all_goals first|rfl|(simp[aB];done)
 ·rintro⟨i,q,ex⟩ ⟨hi,hq⟩
  simp only at hi hq ⊢
  have hq':=Ne.symm hq
  by_cases hlt:i<b.cards.length
  ·obtain⟨x,hx⟩:=bI b.cards hlt
   have hat:=bB (f:=CA.c) hx
   have hsn:=BH (p:=P) hx
   have hxx:=hPx x
   have hxm:=cZ hx
   have ho:=vT b.gr false h3 h4 hb.gok x.id
   have hm:=sH hb.gok hp (pN hb hxm).1 x.id rfl tt
   have hpr:=vY x m
   rw[←hpx] at hpr
   obtain⟨sb,hsb⟩:∃z,dG b.gr fl x=z:=⟨_,rfl⟩
   obtain⟨gb,hgb⟩:∃z,grB b.gr x.id=z:=⟨_,rfl⟩
   rw[hgb] at hm ho
   rw[hsb] at hm hxx
   have hfl:((b.cards.take i).filter P).length≤i:=Nat.le_trans (List.length_filter_le _ _) (by rw[List.length_take];omega)
   obtain⟨L,hL⟩:∃L,(b.cards.take i).filter P=L:=⟨_,rfl⟩
   rw[hL] at hsn hfl ⊢
   obtain⟨y,hy⟩:∃y,pj x=y:=⟨_,rfl⟩
   have hyl:y.length=27:=by rw[←hy,hpx];simp[CA.c,bU]
   have hyc:y.all MV.aN=true:=by rw[←hy,hpx];simp only[CA.c,List.all_cons,cE];rfl
   rw[hy] at hpr
   obtain⟨C,c1,c2⟩:∃C:bR,(∀ms,C 91 ms=some ⟨[],fun v=>v=.int .u32 (gb:Int),none⟩)∧∀ms,C 90 ms=some ⟨[],fun v=>v=.bool sb,none⟩ :=
    ⟨fnF [(91,⟨[],fun v=>v=.int .u32 (gb:Int),none⟩),(90,⟨[],fun v=>v=.bool sb,none⟩)],fun _=>bO,fun _=>bC bO⟩
   have htk:(L.map pj++ex).take L.length=L.map pj:=jV
   have hdr:(L.map pj++ex).drop (L.length+1)=ex.drop 1:=kI
   have hLl:(L.map pj).length=L.length:=List.length_map _
   by_cases hc:x.id≤cur
   ·rw[decide_eq_true hc,Bool.true_and] at hxx
    cases sb
    ·rw[hxx,if_neg (by simp),List.append_nil] at hsn
     repeat' (first|(with_reducible first|(refine wT ?_;(first|((fail_if_success (have:=nl1));refine wN fun nl1 hnl=>?_)|((fail_if_success (have:=nl2));refine wN fun nl2 hnl=>?_)|((fail_if_success (have:=nl3));refine wN fun nl3 hnl=>?_)|((fail_if_success (have:=nl4));refine wN fun nl4 hnl=>?_)|((fail_if_success (have:=nl5));refine wN fun nl5 hnl=>?_)|refine wN fun _ hnl=>?_);revert hnl;(repeat refine wS fun _ _=>?_);intro hnl)|refine wE ?_|(refine wK ?_ ?_<;>intro h)|(refine wB ?_ ?_<;>intro h<;>simp only[h]))|simp(maxSteps:=4000000) (disch:=first|decide|assumption|omega|(simp only[wL];omega)) only[go_sem,simprocAttr,FXs,hat])
     refine aK mixed (by decide +kernel) C ?_
     repeat' (first|(with_reducible refine aI (c1 _) ho ?_)|(with_reducible refine aI (c2 _) hm ?_)|(with_reducible first|(refine wT ?_;(first|((fail_if_success (have:=nl1));refine wN fun nl1 hnl=>?_)|((fail_if_success (have:=nl2));refine wN fun nl2 hnl=>?_)|((fail_if_success (have:=nl3));refine wN fun nl3 hnl=>?_)|((fail_if_success (have:=nl4));refine wN fun nl4 hnl=>?_)|((fail_if_success (have:=nl5));refine wN fun nl5 hnl=>?_)|refine wN fun _ hnl=>?_);revert hnl;(repeat refine wS fun _ _=>?_);intro hnl)|refine wE ?_|(refine wK ?_ ?_<;>intro h)|(refine wB ?_ ?_<;>intro h<;>simp only[h]))|simp(maxSteps:=4000000) (disch:=first|decide|assumption|omega|(simp only[wL];omega)) only[go_sem,simprocAttr,FXs])
     all_goals (try (exfalso;omega))
     all_goals
      refine .of (.less ?_ (σ1:=(St.none.set nl1 (.row 47 5 [b.c])).set q (.row 126 27 (L.map pj++ex))) (le2 (by simp[St.set, *]) (by simp[St.set, *]))) ⟨(i+1,q,ex),rfl,by simp only[hsn],⟨by simp only;omega,hq⟩,by simp only;omega⟩
      simp only[hsn]
      simp(maxSteps:=4000000) (disch:=first|decide|assumption|omega|(simp only[wL];omega)) only[go_sem,simprocAttr,aC,aB]
      all_goals first|rfl|(simp[aB];done)
    ·rw[hxx,if_pos rfl] at hsn
     repeat' (first|(with_reducible first|(refine wT ?_;(first|((fail_if_success (have:=nl1));refine wN fun nl1 hnl=>?_)|((fail_if_success (have:=nl2));refine wN fun nl2 hnl=>?_)|((fail_if_success (have:=nl3));refine wN fun nl3 hnl=>?_)|((fail_if_success (have:=nl4));refine wN fun nl4 hnl=>?_)|((fail_if_success (have:=nl5));refine wN fun nl5 hnl=>?_)|refine wN fun _ hnl=>?_);revert hnl;(repeat refine wS fun _ _=>?_);intro hnl)|refine wE ?_|(refine wK ?_ ?_<;>intro h)|(refine wB ?_ ?_<;>intro h<;>simp only[h]))|simp(maxSteps:=4000000) (disch:=first|decide|assumption|omega|(simp only[wL];omega)) only[go_sem,simprocAttr,FXs,hat])
     refine aK mixed (by decide +kernel) C ?_
     repeat' (first|(with_reducible refine aI (c1 _) ho ?_)|(with_reducible refine aI (c2 _) hm ?_)|(with_reducible refine aQ hpr ?_)|(with_reducible first|(refine wT ?_;(first|((fail_if_success (have:=nl1));refine wN fun nl1 hnl=>?_)|((fail_if_success (have:=nl2));refine wN fun nl2 hnl=>?_)|((fail_if_success (have:=nl3));refine wN fun nl3 hnl=>?_)|((fail_if_success (have:=nl4));refine wN fun nl4 hnl=>?_)|((fail_if_success (have:=nl5));refine wN fun nl5 hnl=>?_)|refine wN fun _ hnl=>?_);revert hnl;(repeat refine wS fun _ _=>?_);intro hnl)|refine wE ?_|(refine wK ?_ ?_<;>intro h)|(refine wB ?_ ?_<;>intro h<;>simp only[h]))|simp(maxSteps:=4000000) (disch:=first|decide|assumption|omega|(simp only[wL];omega)) only[go_sem,simprocAttr,FXs,hat,htk,hdr,hLl,hyl,hyc])
     ·have hex:ex=[]:=List.eq_nil_of_length_eq_zero (by omega)
      subst hex
      refine .of (.less ?_ (σ1:=(St.none.set nl1 (.row 47 5 [b.c])).set nl5 (.row 126 27 (L.map pj++[]++[y]))) (le2 (by simp[St.set, *]) (by simp[St.set, *]))) ⟨(i+1,nl5,[]),rfl,by simp[hsn,hy],⟨by simp only;omega,by assumption⟩,by simp only;omega⟩
      simp only[hsn]
      simp(maxSteps:=4000000) (disch:=first|decide|assumption|omega|(simp only[wL];omega)) only[go_sem,simprocAttr,aC,aB]
      all_goals first|rfl|(simp[aB];done)
     ·refine .of (.less ?_ (σ1:=(St.none.set nl1 (.row 47 5 [b.c])).set nl5 (.row 126 27 (L.map pj++[y]++ex.drop 1))) (le2 (by simp[St.set, *]) (by simp[St.set, *]))) ⟨(i+1,nl5,ex.drop 1),rfl,by simp[hsn,hy],⟨by simp only;omega,by assumption⟩,by simp only;omega⟩
      simp only[hsn]
      simp(maxSteps:=4000000) (disch:=first|decide|assumption|omega|(simp only[wL];omega)) only[go_sem,simprocAttr,aC,aB]
      all_goals first|rfl|(simp[aB];done)
   ·rw[decide_eq_false hc,Bool.false_and] at hxx
    rw[hxx,if_neg (by simp),List.append_nil] at hsn
    repeat' (first|(with_reducible first|(refine wT ?_;(first|((fail_if_success (have:=nl1));refine wN fun nl1 hnl=>?_)|((fail_if_success (have:=nl2));refine wN fun nl2 hnl=>?_)|((fail_if_success (have:=nl3));refine wN fun nl3 hnl=>?_)|((fail_if_success (have:=nl4));refine wN fun nl4 hnl=>?_)|((fail_if_success (have:=nl5));refine wN fun nl5 hnl=>?_)|refine wN fun _ hnl=>?_);revert hnl;(repeat refine wS fun _ _=>?_);intro hnl)|refine wE ?_|(refine wK ?_ ?_<;>intro h)|(refine wB ?_ ?_<;>intro h<;>simp only[h]))|simp(maxSteps:=4000000) (disch:=first|decide|assumption|omega|(simp only[wL];omega)) only[go_sem,simprocAttr,FXs,hat])
    refine aK mixed (by decide +kernel) C ?_
    repeat' (first|(with_reducible refine aI (c1 _) ho ?_)|(with_reducible refine aI (c2 _) hm ?_)|(with_reducible first|(refine wT ?_;(first|((fail_if_success (have:=nl1));refine wN fun nl1 hnl=>?_)|((fail_if_success (have:=nl2));refine wN fun nl2 hnl=>?_)|((fail_if_success (have:=nl3));refine wN fun nl3 hnl=>?_)|((fail_if_success (have:=nl4));refine wN fun nl4 hnl=>?_)|((fail_if_success (have:=nl5));refine wN fun nl5 hnl=>?_)|refine wN fun _ hnl=>?_);revert hnl;(repeat refine wS fun _ _=>?_);intro hnl)|refine wE ?_|(refine wK ?_ ?_<;>intro h)|(refine wB ?_ ?_<;>intro h<;>simp only[h]))|simp(maxSteps:=4000000) (disch:=first|decide|assumption|omega|(simp only[wL];omega)) only[go_sem,simprocAttr,FXs])
    all_goals (try (exfalso;omega))
    all_goals
     refine .of (.less ?_ (σ1:=(St.none.set nl1 (.row 47 5 [b.c])).set q (.row 126 27 (L.map pj++ex))) (le2 (by simp[St.set, *]) (by simp[St.set, *]))) ⟨(i+1,q,ex),rfl,by simp only[hsn],⟨by simp only;omega,hq⟩,by simp only;omega⟩
     simp only[hsn]
     simp(maxSteps:=4000000) (disch:=first|decide|assumption|omega|(simp only[wL];omega)) only[go_sem,simprocAttr,aC,aB]
     all_goals first|rfl|(simp[aB];done)
  ·have:i=b.cards.length:=by omega
   subst this
   rw[List.take_length]
   repeat' (first|(with_reducible first|(refine wT ?_;(first|((fail_if_success (have:=nl1));refine wN fun nl1 hnl=>?_)|((fail_if_success (have:=nl2));refine wN fun nl2 hnl=>?_)|((fail_if_success (have:=nl3));refine wN fun nl3 hnl=>?_)|((fail_if_success (have:=nl4));refine wN fun nl4 hnl=>?_)|((fail_if_success (have:=nl5));refine wN fun nl5 hnl=>?_)|refine wN fun _ hnl=>?_);revert hnl;(repeat refine wS fun _ _=>?_);intro hnl)|refine wE ?_|(refine wK ?_ ?_<;>intro h)|(refine wB ?_ ?_<;>intro h<;>simp only[h]))|simp(maxSteps:=4000000) (disch:=first|decide|assumption|omega|(simp only[wL];omega)) only[go_sem,simprocAttr])
   exact eH (aJ _ _ _) (by simp)
theorem HI{b:BK}(hb:BkR b)(fl:List ND):((oT b fl 0 1073741824).map CA.id)=Es b fl:=by
 unfold oT Es
 rw[List.map_map]
 have e:b.cards.filter (fun c=>decide (c.id≤1073741824)&&dG b.gr fl c)=b.cards.filter (dG b.gr fl):=List.filter_congr fun c hc=>by
  rw[decide_eq_true (by have:=(pN hb hc).2.2;omega),Bool.true_and]
 rw[e]
 rfl
theorem Ja(b:BK)(hb:BkR b)(h3:b.gr.length≤1000000)(h4:∀g,g∈b.gr→g.mem.length≤1000000)(fl:List ND)(hp:bF fl=0)(tt:Bool) :
  aA Tryz.prog 101 [.agg b.c,.lst 5 (fl.map ND.c) tt] St.none (fun r _=>r=.lst 1 ((Es b fl).map aP) false):=by
 refine aA.seen (aA.body 27 [.tmp 4] Tryz.func101 rfl rfl rfl rfl ?_)
 rw[←HI hb,List.map_map]
 have hi:=Dk b hb h3 h4 fl hp tt 0 1073741824
 rw[O2] at hi
 have hL:(oT b fl 0 1073741824).length≤48:=by
  unfold oT
  rw[List.length_map]
  exact Nat.le_trans (List.length_filter_le _ _) hb.nc
 obtain⟨W,hW⟩:∃W,oT b fl 0 1073741824=W:=⟨_,rfl⟩
 rw[hW] at hi hL ⊢
 have hWl:(W.map CA.c).length=W.length:=List.length_map _
 repeat' (first|(with_reducible first|refine up hi ?_)|(with_reducible first|(refine wT ?_;(first|((fail_if_success (have:=nl1));refine wN fun nl1 hnl=>?_)|((fail_if_success (have:=nl2));refine wN fun nl2 hnl=>?_)|((fail_if_success (have:=nl3));refine wN fun nl3 hnl=>?_)|((fail_if_success (have:=nl4));refine wN fun nl4 hnl=>?_)|refine wN fun _ hnl=>?_);revert hnl;(repeat refine wS fun _ _=>?_);intro hnl)|refine wE ?_|(refine wK ?_ ?_<;>intro h)|(refine wB ?_ ?_<;>intro h<;>simp only[h]))|simp(maxSteps:=4000000) (disch:=first|decide|assumption|omega|(simp only[wL];omega)) only[go_sem,simprocAttr,Tryz.f101])
 refine aF (α:=Nat × Nat × List (List MV)) (fun s=>⟨27,[(7,.int .i64 (s.1:Int)),(6,.vec 1 s.2.1 0 s.1),(5,.lst 27 (W.map CA.c) false)],[]⟩)
  (fun s=>St.none.set s.2.1 (.row 3 1 ((W.take s.1).map (aP ∘ CA.id)++s.2.2))) (fun s=>s.1≤W.length) (fun s=>W.length - s.1) ?_ ?_
 ·refine .of (.less ?_ (σ1:=St.none.set nl2 (.row 3 1 [])) (St.aD (St.none_le _) (by simp[St.set, *]))) ⟨(0,nl2,[]),rfl,by simp,Nat.zero_le _⟩
  simp(maxSteps:=4000000) (disch:=first|decide|assumption|omega|(simp only[wL];omega)) only[go_sem,simprocAttr,aC,aB]
  all_goals first|rfl|(simp[aB];done)
 ·rintro⟨i,q,ex⟩ hi'
  simp only at hi' ⊢
  by_cases hlt:i<W.length
  ·obtain⟨x,hx⟩:=bI W hlt
   have hat:=bB (f:=CA.c) hx
   have hsn:=aV hx
   have htl:(W.take i).length=i:=by rw[List.length_take];omega
   obtain⟨L,hL'⟩:∃L,W.take i=L:=⟨_,rfl⟩
   rw[hL'] at hsn htl ⊢
   have htk:(L.map (aP ∘ CA.id)++ex).take i=L.map (aP ∘ CA.id):=by rw[←htl];exact jV
   have hdr:(L.map (aP ∘ CA.id)++ex).drop (i+1)=ex.drop 1:=by rw[←htl];exact kI
   have hLl:(L.map (aP ∘ CA.id)).length=i:=by rw[List.length_map,htl]
   repeat' (first|(with_reducible first|(refine wT ?_;(first|((fail_if_success (have:=nl1));refine wN fun nl1 hnl=>?_)|((fail_if_success (have:=nl2));refine wN fun nl2 hnl=>?_)|((fail_if_success (have:=nl3));refine wN fun nl3 hnl=>?_)|((fail_if_success (have:=nl4));refine wN fun nl4 hnl=>?_)|refine wN fun _ hnl=>?_);revert hnl;(repeat refine wS fun _ _=>?_);intro hnl)|refine wE ?_|(refine wK ?_ ?_<;>intro h)|(refine wB ?_ ?_<;>intro h<;>simp only[h]))|simp(maxSteps:=4000000) (disch:=first|decide|assumption|omega|(simp only[wL];omega)) only[go_sem,simprocAttr,FXs,hat,htk,hdr,hLl,htl,hWl])
   ·have hex:ex=[]:=List.eq_nil_of_length_eq_zero (by omega)
    subst hex
    refine .of (.less ?_ (σ1:=St.none.set nl4 (.row 3 1 (L.map (aP ∘ CA.id)++[]++[aP x.id]))) (St.aD (St.none_le _) (by simp[St.set, *]))) ⟨(i+1,nl4,[]),rfl,by simp[hsn],by simp only;omega,by simp only;omega⟩
    simp(maxSteps:=4000000) (disch:=first|decide|assumption|omega|(simp only[wL];omega)) only[go_sem,simprocAttr,aC,aB]
    all_goals first|rfl|(simp[aB];done)
   ·refine .of (.less ?_ (σ1:=St.none.set nl4 (.row 3 1 (L.map (aP ∘ CA.id)++[aP x.id]++ex.drop 1))) (St.aD (St.none_le _) (by simp[St.set, *]))) ⟨(i+1,nl4,ex.drop 1),rfl,by simp[hsn],by simp only;omega,by simp only;omega⟩
    simp(maxSteps:=4000000) (disch:=first|decide|assumption|omega|(simp only[wL];omega)) only[go_sem,simprocAttr,aC,aB]
    all_goals first|rfl|(simp[aB];done)
  ·have:i=W.length:=by omega
   subst this
   rw[List.take_length]
   repeat' (first|(with_reducible first|(refine wT ?_;(first|((fail_if_success (have:=nl1));refine wN fun nl1 hnl=>?_)|((fail_if_success (have:=nl2));refine wN fun nl2 hnl=>?_)|((fail_if_success (have:=nl3));refine wN fun nl3 hnl=>?_)|((fail_if_success (have:=nl4));refine wN fun nl4 hnl=>?_)|refine wN fun _ hnl=>?_);revert hnl;(repeat refine wS fun _ _=>?_);intro hnl)|refine wE ?_|(refine wK ?_ ?_<;>intro h)|(refine wB ?_ ?_<;>intro h<;>simp only[h]))|simp(maxSteps:=4000000) (disch:=first|decide|assumption|omega|(simp only[wL];omega)) only[go_sem,simprocAttr,hWl])
   exact eH (aJ _ _ _) (by simp)
end

section
set_option maxRecDepth 100000
set_option maxHeartbeats 8000000
theorem jS:∀(l:List TU) (x:TU) (id:Int),cJ (l++[x]) id=if x.id=id then some x.new else cJ l id
 | [],x,id=>by simp[cJ]
 | t::l,x,id=>by
  rw[List.cons_append,cJ,jS l x id,cJ]
  by_cases h:x.id=id
  ·rw[if_pos h,if_pos h]
  ·rw[if_neg h,if_neg h]
theorem pC:∀(l:List TU) (x:TU),oK (l++[x])=x.sq
 | [],x=>rfl
 | [t],x=>rfl
 | t::t'::l,x=>by
  rw[List.cons_append,List.cons_append,oK,←List.cons_append,pC]
theorem LY{t:TU}(h:wZ t=true):1≤t.sq:=by
 unfold wZ at h
 rw[Bool.and_eq_true,decide_eq_true_eq] at h
 exact h.1.1
theorem Ly(t:TU):aA Tryz.prog 192 [.agg t.c] St.none (fun r _=>r=.bool (wZ t)):=by
 refine aA.bZ (aA.body 74 [.tmp 2] Tryz.func192 rfl rfl rfl rfl ?_)
 obtain⟨res,hres⟩:∃b,wZ t=b:=⟨_,rfl⟩
 rw[hres]
 unfold wZ eU big at hres
 have hc:=qB t.card
 have hm:bT Tryz.prog 126 .eql (.agg t.card.c) (.agg (.int .i64 0::.int .i64 0::.int .u32 0::fc f80))=some (True,.bool (decide (t.card=ca0))):=Ce t.card ca0
 by_cases hr:1≤t.sq∧t.sq≤1099511627776∧1≤t.id∧t.id<1073741824∧0≤t.old∧t.old≤1099511627776∧0≤t.new∧t.new≤1099511627776∧t.old≠t.new
 ·rw[decide_eq_true hr,Bool.true_and] at hres
  obtain⟨r1,r2,r3,r4,r5,r6,r7,r8,r9⟩:=hr
  by_cases h0:t.new=0
  ·rw[if_pos h0] at hres
   rw[hres] at hm
   repeat' (first|(with_reducible first|(refine wN fun _ hnl=>?_;revert hnl;(repeat refine wS fun _ _=>?_);intro hnl)|refine wE ?_|(refine wK ?_ ?_<;>intro h)|(refine wB ?_ ?_<;>intro h<;>simp only[h]))|simp(maxSteps:=4000000) (disch:=first|decide|assumption|omega|(simp only[wL];omega)) only[go_sem,simprocAttr,Tryz.f192,FXs,hm])
   all_goals first|exact⟨_,St.le_refl _,rfl⟩|exact⟨_,St.le_refl _⟩|(exfalso;omega)
  ·rw[if_neg h0] at hres
   obtain⟨ok,hok⟩:∃b,cW t.card=b:=⟨_,rfl⟩
   rw[hok] at hc hres
   cases ok
   ·rw[Bool.false_and] at hres
    subst hres
    repeat' (first|(with_reducible first|refine up hc ?_)|(with_reducible first|(refine wN fun _ hnl=>?_;revert hnl;(repeat refine wS fun _ _=>?_);intro hnl)|refine wE ?_|(refine wK ?_ ?_<;>intro h)|(refine wB ?_ ?_<;>intro h<;>simp only[h]))|simp(maxSteps:=4000000) (disch:=first|decide|assumption|omega|(simp only[wL];omega)) only[go_sem,simprocAttr,Tryz.f192,FXs])
    all_goals first|exact⟨_,St.le_refl _,rfl⟩|exact⟨_,St.le_refl _⟩|(exfalso;omega)
   ·rw[Bool.true_and] at hres
    by_cases h1:t.card.id=t.id
    ·by_cases h2:t.card.ver=t.new
     ·rw[decide_eq_true ⟨h1,h2⟩] at hres
      subst hres
      repeat' (first|(with_reducible first|refine up hc ?_)|(with_reducible first|(refine wN fun _ hnl=>?_;revert hnl;(repeat refine wS fun _ _=>?_);intro hnl)|refine wE ?_|(refine wK ?_ ?_<;>intro h)|(refine wB ?_ ?_<;>intro h<;>simp only[h]))|simp(maxSteps:=4000000) (disch:=first|decide|assumption|omega|(simp only[wL];omega)) only[go_sem,simprocAttr,Tryz.f192,FXs])
      all_goals first|exact⟨_,St.le_refl _,rfl⟩|exact⟨_,St.le_refl _⟩|(exfalso;omega)|(refine⟨_,St.le_refl _,?_⟩;simp[*])
     ·rw[decide_eq_false fun h=>h2 h.2] at hres
      subst hres
      repeat' (first|(with_reducible first|refine up hc ?_)|(with_reducible first|(refine wN fun _ hnl=>?_;revert hnl;(repeat refine wS fun _ _=>?_);intro hnl)|refine wE ?_|(refine wK ?_ ?_<;>intro h)|(refine wB ?_ ?_<;>intro h<;>simp only[h]))|simp(maxSteps:=4000000) (disch:=first|decide|assumption|omega|(simp only[wL];omega)) only[go_sem,simprocAttr,Tryz.f192,FXs])
      all_goals first|exact⟨_,St.le_refl _,rfl⟩|exact⟨_,St.le_refl _⟩|(exfalso;omega)|(refine⟨_,St.le_refl _,?_⟩;simp[*])
    ·rw[decide_eq_false fun h=>h1 h.1] at hres
     subst hres
     repeat' (first|(with_reducible first|refine up hc ?_)|(with_reducible first|(refine wN fun _ hnl=>?_;revert hnl;(repeat refine wS fun _ _=>?_);intro hnl)|refine wE ?_|(refine wK ?_ ?_<;>intro h)|(refine wB ?_ ?_<;>intro h<;>simp only[h]))|simp(maxSteps:=4000000) (disch:=first|decide|assumption|omega|(simp only[wL];omega)) only[go_sem,simprocAttr,Tryz.f192,FXs])
     all_goals first|exact⟨_,St.le_refl _,rfl⟩|exact⟨_,St.le_refl _⟩|(exfalso;omega)|(refine⟨_,St.le_refl _,?_⟩;simp[*])
 ·rw[decide_eq_false hr,Bool.false_and] at hres
  subst hres
  repeat' (first|(with_reducible first|(refine wN fun _ hnl=>?_;revert hnl;(repeat refine wS fun _ _=>?_);intro hnl)|refine wE ?_|(refine wK ?_ ?_<;>intro h)|(refine wB ?_ ?_<;>intro h<;>simp only[h]))|simp(maxSteps:=4000000) (disch:=first|decide|assumption|omega|(simp only[wL];omega)) only[go_sem,simprocAttr,Tryz.f192,FXs])
  all_goals first|exact⟨_,St.le_refl _,rfl⟩|exact⟨_,St.le_refl _⟩|(exfalso;omega)
theorem Je(l:List TU)(hl:l.length≤1000000)(tt:Bool):aA Tryz.prog 116 [.lst 31 (l.map TU.c) tt] St.none (fun r _=>r=.bool (eR [] l)):=by
 refine aA.bZ (aA.body 63 [.tmp 2] Tryz.func116 rfl rfl rfl rfl ?_)
 obtain⟨res,hres⟩:∃b,eR [] l=b:=⟨_,rfl⟩
 rw[hres]
 repeat' (first|(with_reducible first|(refine wN fun _ hnl=>?_;revert hnl;(repeat refine wS fun _ _=>?_);intro hnl)|refine wE ?_|(refine wK ?_ ?_<;>intro h)|(refine wB ?_ ?_<;>intro h<;>simp only[h]))|simp(maxSteps:=4000000) (disch:=first|decide|assumption|omega|(simp only[wL];omega)) only[go_sem,simprocAttr,Tryz.f116])
 refine aF (α:=Nat) (fun i=>⟨63,[(3,.int .i64 (i:Int)),(0,.lst 31 (l.map TU.c) tt)],[]⟩) (fun _=>St.none) (fun i=>i≤l.length∧res=eR (l.take i) (l.drop i)) (fun i=>l.length - i) (.of (.less ?_ (St.le_refl _)) ⟨0,rfl,rfl,Nat.zero_le _,hres.symm⟩) ?_
 ·simp(maxSteps:=4000000) (disch:=first|decide|assumption|omega|(simp only[wL];omega)) only[go_sem,simprocAttr,aC,aB]
  all_goals rfl
 ·rintro i ⟨hi,hq⟩
  by_cases hlt:i<l.length
  ·obtain⟨t,ht⟩:=bI l hlt
   have hat:=bB (f:=TU.c) ht
   rw[dT ht,eR,FH] at hq
   have hsn:=aV ht
   have hto:((i:Int) - 1).toNat=i - 1:=by omega
   have hl0:i=0→oK (l.take i)=0:=fun h=>by rw[h];rfl
   have hl1:0<i→∃y:TU,(l.map TU.c).getD (i - 1) []=y.c∧oK (l.take i)=y.sq:=fun h=>by
    obtain⟨y,hy⟩:=s8 hi h
    refine⟨y,bB hy,?_⟩
    have:=aV hy
    rw[Nat.sub_add_cancel h] at this
    rw[this,pC]
   have hc:=Ly t
   obtain⟨last,hlast⟩:∃k,oK (l.take i)=k:=⟨_,rfl⟩
   rw[hlast] at hq hl0 hl1
   obtain⟨ok,hok⟩:∃b,wZ t=b:=⟨_,rfl⟩
   have hpos:ok=true→1≤t.sq:=fun h=>LY (hok.trans h)
   rw[hok] at hc hq
   obtain⟨C,c1⟩:∃C:bR,∀ms,C 192 ms=some ⟨[],fun v=>v=.bool ok,none⟩:=⟨tV 192 (.bool ok),fun _=>gJ⟩
   by_cases hgood:ok=true∧last<t.sq
   ·obtain⟨rfl,hr⟩:=hgood
    have hp:=hpos rfl
    rw[decide_eq_true hr,Bool.true_and,Bool.true_and] at hq
    rcases Nat.eq_zero_or_pos i with hi0|hi0
    ·repeat' (first|((with_reducible refine aK mixed ?chk C ?_);(case chk=>decide +kernel))|(with_reducible refine aI (c1 _) hc ?_)|(with_reducible first|(refine wN fun _ hnl=>?_;revert hnl;(repeat refine wS fun _ _=>?_);intro hnl)|refine wE ?_|(refine wK ?_ ?_<;>intro h)|(refine wB ?_ ?_<;>intro h<;>simp only[h]))|simp(maxSteps:=4000000) (disch:=first|decide|assumption|omega|(simp only[wL];omega)) only[go_sem,simprocAttr,FXs,hat,hto])
     all_goals (try (exfalso;omega))
     refine aF (α:=Nat) (fun j=>⟨63,[(4,.int .i64 ((j:Int) - 1)),(3,.int .i64 (i:Int)),(0,.lst 31 (l.map TU.c) tt)],[]⟩) (fun _=>St.none) (fun j=>j≤i∧cJ (l.take i) t.id=cJ (l.take j) t.id) (fun j=>j) (.of (.less ?_ (St.le_refl _)) ⟨i,rfl,rfl,Nat.le_refl _,rfl⟩) ?_
     ·simp(maxSteps:=4000000) (disch:=first|decide|assumption|omega|(simp only[wL];omega)) only[go_sem,simprocAttr,aC,aB]
      all_goals rfl
     ·rintro j ⟨hj,hn⟩
      have htj:((j:Int) - 1).toNat=j - 1:=by omega
      by_cases hj0:0<j
      ·obtain⟨z,hz⟩:∃z,l[j - 1]?=some z:=bI l (by omega)
       have hatz:=bB (f:=TU.c) hz
       have hsz:=aV hz
       rw[Nat.sub_add_cancel hj0] at hsz
       rw[hsz,jS] at hn
       by_cases he:z.id=t.id
       ·rw[if_pos he] at hn
        rw[hn,Option.getD_some] at hq
        by_cases hv:z.new=t.old
        ·rw[decide_eq_true hv,Bool.true_and,←hsn] at hq
         repeat' (first|(with_reducible first|(refine wN fun _ hnl=>?_;revert hnl;(repeat refine wS fun _ _=>?_);intro hnl)|refine wE ?_|(refine wK ?_ ?_<;>intro h)|(refine wB ?_ ?_<;>intro h<;>simp only[h]))|simp(maxSteps:=4000000) (disch:=first|decide|assumption|omega|(simp only[wL];omega)) only[go_sem,simprocAttr,FXs,hat,hatz,htj])
         all_goals (try (exfalso;omega))
         all_goals
          refine .of (.less ?_ (St.none_le _)) ⟨i+1,rfl,rfl,⟨by omega,hq⟩,by omega⟩
          simp(maxSteps:=4000000) (disch:=first|decide|assumption|omega|(simp only[wL];omega)) only[go_sem,simprocAttr,aC,aB]
          all_goals first|rfl|omega
        ·rw[decide_eq_false hv,Bool.false_and] at hq
         subst hq
         repeat' (first|(with_reducible first|(refine wN fun _ hnl=>?_;revert hnl;(repeat refine wS fun _ _=>?_);intro hnl)|refine wE ?_|(refine wK ?_ ?_<;>intro h)|(refine wB ?_ ?_<;>intro h<;>simp only[h]))|simp(maxSteps:=4000000) (disch:=first|decide|assumption|omega|(simp only[wL];omega)) only[go_sem,simprocAttr,FXs,hat,hatz,htj])
         all_goals first|exact⟨_,St.le_refl _,rfl⟩|exact⟨_,St.le_refl _⟩|(exfalso;omega)
       ·rw[if_neg he] at hn
        repeat' (first|(with_reducible first|(refine wN fun _ hnl=>?_;revert hnl;(repeat refine wS fun _ _=>?_);intro hnl)|refine wE ?_|(refine wK ?_ ?_<;>intro h)|(refine wB ?_ ?_<;>intro h<;>simp only[h]))|simp(maxSteps:=4000000) (disch:=first|decide|assumption|omega|(simp only[wL];omega)) only[go_sem,simprocAttr,FXs,hat,hatz,htj])
        all_goals (try (exfalso;omega))
        all_goals
         refine .of (.less ?_ (St.none_le _)) ⟨j - 1,rfl,rfl,⟨by omega,hn⟩,by omega⟩
         simp(maxSteps:=4000000) (disch:=first|decide|assumption|omega|(simp only[wL];omega)) only[go_sem,simprocAttr,aC,aB]
         all_goals first|rfl|omega
      ·have:j=0:=by omega
       subst this
       have hn':cJ (l.take i) t.id=none:=hn
       rw[hn',Option.getD_none,decide_eq_true rfl,Bool.true_and,←hsn] at hq
       repeat' (first|(with_reducible first|(refine wN fun _ hnl=>?_;revert hnl;(repeat refine wS fun _ _=>?_);intro hnl)|refine wE ?_|(refine wK ?_ ?_<;>intro h)|(refine wB ?_ ?_<;>intro h<;>simp only[h]))|simp(maxSteps:=4000000) (disch:=first|decide|assumption|omega|(simp only[wL];omega)) only[go_sem,simprocAttr,FXs])
       all_goals (try (exfalso;omega))
       all_goals
        refine .of (.less ?_ (St.none_le _)) ⟨i+1,rfl,rfl,⟨by omega,hq⟩,by omega⟩
        simp(maxSteps:=4000000) (disch:=first|decide|assumption|omega|(simp only[wL];omega)) only[go_sem,simprocAttr,aC,aB]
        all_goals first|rfl|omega
    ·obtain⟨y,hy,hly⟩:=hl1 hi0
     repeat' (first|((with_reducible refine aK mixed ?chk C ?_);(case chk=>decide +kernel))|(with_reducible refine aI (c1 _) hc ?_)|(with_reducible first|(refine wN fun _ hnl=>?_;revert hnl;(repeat refine wS fun _ _=>?_);intro hnl)|refine wE ?_|(refine wK ?_ ?_<;>intro h)|(refine wB ?_ ?_<;>intro h<;>simp only[h]))|simp(maxSteps:=4000000) (disch:=first|decide|assumption|omega|(simp only[wL];omega)) only[go_sem,simprocAttr,FXs,hat,hto,hy])
     all_goals (try (exfalso;omega))
     refine aF (α:=Nat) (fun j=>⟨63,[(4,.int .i64 ((j:Int) - 1)),(3,.int .i64 (i:Int)),(0,.lst 31 (l.map TU.c) tt)],[]⟩) (fun _=>St.none) (fun j=>j≤i∧cJ (l.take i) t.id=cJ (l.take j) t.id) (fun j=>j) (.of (.less ?_ (St.le_refl _)) ⟨i,rfl,rfl,Nat.le_refl _,rfl⟩) ?_
     ·simp(maxSteps:=4000000) (disch:=first|decide|assumption|omega|(simp only[wL];omega)) only[go_sem,simprocAttr,aC,aB]
      all_goals rfl
     ·rintro j ⟨hj,hn⟩
      have htj:((j:Int) - 1).toNat=j - 1:=by omega
      by_cases hj0:0<j
      ·obtain⟨z,hz⟩:∃z,l[j - 1]?=some z:=bI l (by omega)
       have hatz:=bB (f:=TU.c) hz
       have hsz:=aV hz
       rw[Nat.sub_add_cancel hj0] at hsz
       rw[hsz,jS] at hn
       by_cases he:z.id=t.id
       ·rw[if_pos he] at hn
        rw[hn,Option.getD_some] at hq
        by_cases hv:z.new=t.old
        ·rw[decide_eq_true hv,Bool.true_and,←hsn] at hq
         repeat' (first|(with_reducible first|(refine wN fun _ hnl=>?_;revert hnl;(repeat refine wS fun _ _=>?_);intro hnl)|refine wE ?_|(refine wK ?_ ?_<;>intro h)|(refine wB ?_ ?_<;>intro h<;>simp only[h]))|simp(maxSteps:=4000000) (disch:=first|decide|assumption|omega|(simp only[wL];omega)) only[go_sem,simprocAttr,FXs,hat,hatz,htj])
         all_goals (try (exfalso;omega))
         all_goals
          refine .of (.less ?_ (St.none_le _)) ⟨i+1,rfl,rfl,⟨by omega,hq⟩,by omega⟩
          simp(maxSteps:=4000000) (disch:=first|decide|assumption|omega|(simp only[wL];omega)) only[go_sem,simprocAttr,aC,aB]
          all_goals first|rfl|omega
        ·rw[decide_eq_false hv,Bool.false_and] at hq
         subst hq
         repeat' (first|(with_reducible first|(refine wN fun _ hnl=>?_;revert hnl;(repeat refine wS fun _ _=>?_);intro hnl)|refine wE ?_|(refine wK ?_ ?_<;>intro h)|(refine wB ?_ ?_<;>intro h<;>simp only[h]))|simp(maxSteps:=4000000) (disch:=first|decide|assumption|omega|(simp only[wL];omega)) only[go_sem,simprocAttr,FXs,hat,hatz,htj])
         all_goals first|exact⟨_,St.le_refl _,rfl⟩|exact⟨_,St.le_refl _⟩|(exfalso;omega)
       ·rw[if_neg he] at hn
        repeat' (first|(with_reducible first|(refine wN fun _ hnl=>?_;revert hnl;(repeat refine wS fun _ _=>?_);intro hnl)|refine wE ?_|(refine wK ?_ ?_<;>intro h)|(refine wB ?_ ?_<;>intro h<;>simp only[h]))|simp(maxSteps:=4000000) (disch:=first|decide|assumption|omega|(simp only[wL];omega)) only[go_sem,simprocAttr,FXs,hat,hatz,htj])
        all_goals (try (exfalso;omega))
        all_goals
         refine .of (.less ?_ (St.none_le _)) ⟨j - 1,rfl,rfl,⟨by omega,hn⟩,by omega⟩
         simp(maxSteps:=4000000) (disch:=first|decide|assumption|omega|(simp only[wL];omega)) only[go_sem,simprocAttr,aC,aB]
         all_goals first|rfl|omega
      ·have:j=0:=by omega
       subst this
       have hn':cJ (l.take i) t.id=none:=hn
       rw[hn',Option.getD_none,decide_eq_true rfl,Bool.true_and,←hsn] at hq
       repeat' (first|(with_reducible first|(refine wN fun _ hnl=>?_;revert hnl;(repeat refine wS fun _ _=>?_);intro hnl)|refine wE ?_|(refine wK ?_ ?_<;>intro h)|(refine wB ?_ ?_<;>intro h<;>simp only[h]))|simp(maxSteps:=4000000) (disch:=first|decide|assumption|omega|(simp only[wL];omega)) only[go_sem,simprocAttr,FXs])
       all_goals (try (exfalso;omega))
       all_goals
        refine .of (.less ?_ (St.none_le _)) ⟨i+1,rfl,rfl,⟨by omega,hq⟩,by omega⟩
        simp(maxSteps:=4000000) (disch:=first|decide|assumption|omega|(simp only[wL];omega)) only[go_sem,simprocAttr,aC,aB]
        all_goals first|rfl|omega
   ·have hf:(ok&&decide (last<t.sq))=false:=by
     cases ok
     ·rfl
     ·rw[Bool.true_and]
      exact decide_eq_false fun h=>hgood ⟨rfl,h⟩
    rw[hf,Bool.false_and,Bool.false_and] at hq
    subst hq
    rcases Nat.eq_zero_or_pos i with hi0|hi0
    ·have:=hl0 hi0
     cases ok
     all_goals
      repeat' (first|((with_reducible refine aK mixed ?chk C ?_);(case chk=>decide +kernel))|(with_reducible refine aI (c1 _) hc ?_)|(with_reducible first|(refine wN fun _ hnl=>?_;revert hnl;(repeat refine wS fun _ _=>?_);intro hnl)|refine wE ?_|(refine wK ?_ ?_<;>intro h)|(refine wB ?_ ?_<;>intro h<;>simp only[h]))|simp(maxSteps:=4000000) (disch:=first|decide|assumption|omega|(simp only[wL];omega)) only[go_sem,simprocAttr,FXs,hat,hto])
      all_goals first|exact⟨_,St.le_refl _,rfl⟩|exact⟨_,St.le_refl _⟩|(exfalso;simp at hgood;omega)|(exfalso;have:=hpos rfl;simp at hgood;omega)
    ·obtain⟨y,hy,hly⟩:=hl1 hi0
     cases ok
     all_goals
      repeat' (first|((with_reducible refine aK mixed ?chk C ?_);(case chk=>decide +kernel))|(with_reducible refine aI (c1 _) hc ?_)|(with_reducible first|(refine wN fun _ hnl=>?_;revert hnl;(repeat refine wS fun _ _=>?_);intro hnl)|refine wE ?_|(refine wK ?_ ?_<;>intro h)|(refine wB ?_ ?_<;>intro h<;>simp only[h]))|simp(maxSteps:=4000000) (disch:=first|decide|assumption|omega|(simp only[wL];omega)) only[go_sem,simprocAttr,FXs,hat,hto,hy])
      all_goals first|exact⟨_,St.le_refl _,rfl⟩|exact⟨_,St.le_refl _⟩|(exfalso;simp at hgood;omega)
  ·have:i=l.length:=by omega
   subst this
   rw[List.drop_length,eR] at hq
   rw[hq]
   repeat' (first|(with_reducible first|(refine wN fun _ hnl=>?_;revert hnl;(repeat refine wS fun _ _=>?_);intro hnl)|refine wE ?_|(refine wK ?_ ?_<;>intro h)|(refine wB ?_ ?_<;>intro h<;>simp only[h]))|simp(maxSteps:=4000000) (disch:=first|decide|assumption|omega|(simp only[wL];omega)) only[go_sem,simprocAttr])
   all_goals first|exact⟨_,St.le_refl _,rfl⟩|exact⟨_,St.le_refl _⟩
end
end Go.Proofs.YtppdgejjmhdjhaaGreatDoor
