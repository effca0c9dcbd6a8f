/- Parts of the proof, joined; conditions: those that its theorems name. -/
import Derived.Test.YtaojijkdamfbnaaGreatDoorMax
import Derived.Test.YtaojijkdamfbnaaGreatDoorMay
set_option linter.unusedVariables false
set_option linter.unusedSimpArgs false
set_option maxHeartbeats 4000000
namespace Go.Proofs.YtaojijkdamfbnaaGreatDoor
section
set_option maxRecDepth 100000
set_option maxHeartbeats 8000000
theorem bD.Lg{n:Nat}{l l1:List (Nat × MV)}{d:List (FuncId × List MV)}{τ:St}{q:Nat}{o:aY}(hq:τ q=none)(h:∀p,p∈l1→View (St.none.set q o) (cC l p.1) p.2):bD ⟨n,l,d⟩ (τ.set q o) ⟨n,l1,d⟩ τ :=
 bD.freeze (St.none.set q o) (St.aG (St.none_le _) (aK _ _ _)) (cQ hq) (fun k o' hk=>(aH _ _ _ _ (fun e=>by subst e;rw[hq] at hk;cases hk)).trans rfl) h
theorem Ey(b:BK):aA Tryz.prog 66 [.agg b.c] St.none (fun r _=>r=.agg [.int .i64 b.sq,.int .i64 b.nx,.lst 27 (b.cards.map CA.c) false,.lst 3 (b.dead.map DE.c) false,.lst 2 (b.gr.map GR.c) false]):=by
 refine aA.cD (aA.body 15 [.cell 2 137] Tryz.func66 rfl rfl rfl rfl ?_)
 repeat' (first|(with_reducible first|(refine wN fun _ hnl=>?_;revert hnl;(repeat refine wS fun _ _=>?_);intro hnl)|refine wE ?_|(refine wK ?_ ?_<;>intro h)|(refine wB ?_ ?_<;>intro h<;>simp only[h]))|simp(maxSteps:=4000000) (disch:=first|decide|assumption|omega|(simp only[wL];omega)) only[go_sem,simprocAttr,Tryz.f66])
 all_goals first|exact⟨_,St.le_refl _,rfl⟩|exact⟨_,St.le_refl _⟩
theorem iK(b:BK)(h1:b.cards.length≤1000000)(h2:b.dead.length≤1000000)(h3:b.gr.length≤1000000)(h4:∀g,g∈b.gr→g.mem.length≤1000000):aA Tryz.prog 36 [.agg b.c] St.none (fun r _=>r=.bool (kK b)):=by
 refine aA.cD (aA.body 80 [.tmp 2] Tryz.func36 rfl rfl rfl rfl ?_)
 obtain⟨res,hres⟩:∃x,kK b=x:=⟨_,rfl⟩
 rw[hres]
 unfold kK big at hres
 have c0:=Ey b
 have c1:=xD b.nx b.cards b.dead h1 h2
 have c2:=HU b.gr false h3 h4
 obtain⟨so,hso⟩:∃x,nV b.nx b.cards b.dead=x:=⟨_,rfl⟩
 obtain⟨go,hgo⟩:∃x,dL (-1) b.gr=x:=⟨_,rfl⟩
 rw[hso] at c1 hres
 rw[hgo] at c2 hres
 by_cases h0:so=true∧(0≤b.sq∧b.sq≤1099511627776)∧go=true
 rotate_left
 ·have e:res=false:=by
   rw[←hres]
   cases so<;>cases go<;>simp at h0 ⊢
   intro x y
   exact absurd y (by have:=h0 x;omega)
  subst e
  clear hres
  cases so<;>cases go
  all_goals
   repeat' (first|(with_reducible first|refine up c0 ?_|refine up c1 ?_|refine up c2 ?_)|(with_reducible first|(refine wT ?_;(first|((fail_if_success (have:=nl1));refine wN fun nl1 hnl=>?_)|((fail_if_success (have:=nl2));refine wN fun nl2 hnl=>?_)|((fail_if_success (have:=nl3));refine wN fun nl3 hnl=>?_)|((fail_if_success (have:=nl4));refine wN fun nl4 hnl=>?_)|((fail_if_success (have:=nl5));refine wN fun nl5 hnl=>?_)|refine wN fun _ hnl=>?_);revert hnl;(repeat refine wS fun _ _=>?_);intro hnl)|refine wE ?_|(refine wK ?_ ?_<;>intro h)|(refine wB ?_ ?_<;>intro h<;>simp only[h]))|simp(maxSteps:=4000000) (disch:=first|decide|assumption|omega|(simp only[wL];omega)) only[go_sem,simprocAttr,Tryz.f36])
   all_goals first|exact⟨_,St.le_refl _,rfl⟩|exact⟨_,St.le_refl _⟩|(exfalso;simp at h0;omega)
 ·obtain⟨rfl,⟨g1,g2⟩,rfl⟩:=h0
  rw[decide_eq_true ⟨g1,g2⟩,Bool.true_and,Bool.true_and,Bool.true_and] at hres
  repeat' (first|(with_reducible first|refine up c0 ?_|refine up c1 ?_|refine up c2 ?_)|(with_reducible first|(refine wT ?_;(first|((fail_if_success (have:=nl1));refine wN fun nl1 hnl=>?_)|((fail_if_success (have:=nl2));refine wN fun nl2 hnl=>?_)|((fail_if_success (have:=nl3));refine wN fun nl3 hnl=>?_)|((fail_if_success (have:=nl4));refine wN fun nl4 hnl=>?_)|((fail_if_success (have:=nl5));refine wN fun nl5 hnl=>?_)|refine wN fun _ hnl=>?_);revert hnl;(repeat refine wS fun _ _=>?_);intro hnl)|refine wE ?_|(refine wK ?_ ?_<;>intro h)|(refine wB ?_ ?_<;>intro h<;>simp only[h]))|simp(maxSteps:=4000000) (disch:=first|decide|assumption|omega|(simp only[wL];omega)) only[go_sem,simprocAttr,Tryz.f36])
  all_goals (try (exfalso;omega))
  refine aJ (α:=Nat) (fun i=>⟨80,[(4,.int .i64 (i:Int)),(1,.ptr nl1 0 0)],[]⟩) (fun _=>St.none.set nl1 (.row 26 5 [b.c])) (fun i=>i≤b.dead.length∧∀d,d∈b.dead.take i→d.sq≤b.sq) (fun i=>b.dead.length - i) (.of (.less ?_ (St.aG (St.none_le _) (by simp[St.set, *]))) ⟨0,rfl,rfl,Nat.zero_le _,by simp⟩) ?_
  ·simp(maxSteps:=4000000) (disch:=first|decide|assumption|omega|(simp only[wL];omega)) only[go_sem,simprocAttr,aC,aB]
   all_goals rfl
  ·rintro i ⟨hi,hall⟩
   by_cases hlt:i<b.dead.length
   ·obtain⟨d,hd⟩:=bO b.dead hlt
    have hat:=bH (f:=DE.c) hd
    by_cases hb:d.sq≤b.sq
    ·repeat' (first|(with_reducible first|(refine wT ?_;(first|((fail_if_success (have:=nl1));refine wN fun nl1 hnl=>?_)|((fail_if_success (have:=nl2));refine wN fun nl2 hnl=>?_)|((fail_if_success (have:=nl3));refine wN fun nl3 hnl=>?_)|((fail_if_success (have:=nl4));refine wN fun nl4 hnl=>?_)|((fail_if_success (have:=nl5));refine wN fun nl5 hnl=>?_)|refine wN fun _ hnl=>?_);revert hnl;(repeat refine wS fun _ _=>?_);intro hnl)|refine wE ?_|(refine wK ?_ ?_<;>intro h)|(refine wB ?_ ?_<;>intro h<;>simp only[h]))|simp(maxSteps:=4000000) (disch:=first|decide|assumption|omega|(simp only[wL];omega)) only[go_sem,simprocAttr,hat])
     all_goals (try (exfalso;omega))
     all_goals
      refine .of (.less ?_ (St.le_refl _)) ⟨i+1,rfl,rfl,⟨by omega,fun e' h'=>?_⟩,by omega⟩
      ·simp(maxSteps:=4000000) (disch:=first|decide|assumption|omega|(simp only[wL];omega)) only[go_sem,simprocAttr,aC,aB]
       all_goals rfl
      ·rw[bB hd,List.mem_append,List.mem_singleton] at h'
       rcases h' with h'|rfl
       ·exact hall e' h'
       ·exact hb
    ·have hf:(b.dead.all fun d=>decide (d.sq≤b.sq))=false:=List.all_eq_false.2 ⟨d,dS hd,by rw[decide_eq_false hb];simp⟩
     rw[hf,Bool.false_and] at hres
     subst hres
     repeat' (first|(with_reducible first|(refine wT ?_;(first|((fail_if_success (have:=nl1));refine wN fun nl1 hnl=>?_)|((fail_if_success (have:=nl2));refine wN fun nl2 hnl=>?_)|((fail_if_success (have:=nl3));refine wN fun nl3 hnl=>?_)|((fail_if_success (have:=nl4));refine wN fun nl4 hnl=>?_)|((fail_if_success (have:=nl5));refine wN fun nl5 hnl=>?_)|refine wN fun _ hnl=>?_);revert hnl;(repeat refine wS fun _ _=>?_);intro hnl)|refine wE ?_|(refine wK ?_ ?_<;>intro h)|(refine wB ?_ ?_<;>intro h<;>simp only[h]))|simp(maxSteps:=4000000) (disch:=first|decide|assumption|omega|(simp only[wL];omega)) only[go_sem,simprocAttr,hat])
     all_goals first|exact⟨_,St.le_refl _,rfl⟩|exact⟨_,St.le_refl _⟩|(exfalso;omega)
   ·have:i=b.dead.length:=by omega
    subst this
    rw[List.take_length] at hall
    have ht:(b.dead.all fun d=>decide (d.sq≤b.sq))=true:=List.all_eq_true.2 fun e h=>decide_eq_true (hall e h)
    rw[ht,Bool.true_and] at hres
    clear hall ht
    repeat' (first|(with_reducible first|(refine wT ?_;(first|((fail_if_success (have:=nl1));refine wN fun nl1 hnl=>?_)|((fail_if_success (have:=nl2));refine wN fun nl2 hnl=>?_)|((fail_if_success (have:=nl3));refine wN fun nl3 hnl=>?_)|((fail_if_success (have:=nl4));refine wN fun nl4 hnl=>?_)|((fail_if_success (have:=nl5));refine wN fun nl5 hnl=>?_)|refine wN fun _ hnl=>?_);revert hnl;(repeat refine wS fun _ _=>?_);intro hnl)|refine wE ?_|(refine wK ?_ ?_<;>intro h)|(refine wB ?_ ?_<;>intro h<;>simp only[h]))|simp(maxSteps:=4000000) (disch:=first|decide|assumption|omega|(simp only[wL];omega)) only[go_sem,simprocAttr])
    have hn1:nl3≠nl1:=by assumption
    refine aJ (α:=Nat × Nat × List (List MV)) (fun s=>⟨80,[(6,.int .i64 (s.1:Int)),(5,.vec 1 s.2.1 0 s.1),(1,.ptr nl1 0 0)],[]⟩)
     (fun s=>(St.none.set nl1 (.row 26 5 [b.c])).set s.2.1 (.row 3 1 ((b.cards.take s.1).map (fun c=>aS c.id)++s.2.2))) (fun s=>s.1≤b.cards.length∧s.2.1≠nl1) (fun s=>b.cards.length - s.1) (.of (.less ?_ (St.le_refl _)) ⟨(0,nl3,[]),rfl,by simp,Nat.zero_le _,hn1⟩) ?_
    ·simp(maxSteps:=4000000) (disch:=first|decide|assumption|omega|(simp only[wL];omega)) only[go_sem,simprocAttr,aC,aB]
     all_goals first|rfl|(simp[aB];done)
    ·rintro⟨i,q,ex⟩ ⟨hi,hq⟩
     simp only at hi hq ⊢
     have hq':=Ne.symm hq
     by_cases hlt:i<b.cards.length
     ·obtain⟨x,hx⟩:=bO b.cards hlt
      have hat:=bH (f:=CA.c) hx
      have hsn:=bB hx
      have htl:(b.cards.take i).length=i:=by rw[List.length_take];omega
      obtain⟨L,hL⟩:∃L,b.cards.take i=L:=⟨_,rfl⟩
      rw[hL] at hsn htl ⊢
      have htk:(L.map (fun c=>aS c.id)++ex).take i=L.map (fun c=>aS c.id):=by rw[←htl];exact j6
      have hdr:(L.map (fun c=>aS c.id)++ex).drop (i+1)=ex.drop 1:=by rw[←htl];exact kM
      have hLl:(L.map (fun c:CA=>aS c.id)).length=i:=by rw[List.length_map,htl]
      repeat' (first|(with_reducible first|(refine wT ?_;(first|((fail_if_success (have:=nl1));refine wN fun nl1 hnl=>?_)|((fail_if_success (have:=nl2));refine wN fun nl2 hnl=>?_)|((fail_if_success (have:=nl3));refine wN fun nl3 hnl=>?_)|((fail_if_success (have:=nl4));refine wN fun nl4 hnl=>?_)|((fail_if_success (have:=nl5));refine wN fun nl5 hnl=>?_)|refine wN fun _ hnl=>?_);revert hnl;(repeat refine wS fun _ _=>?_);intro hnl)|refine wE ?_|(refine wK ?_ ?_<;>intro h)|(refine wB ?_ ?_<;>intro h<;>simp only[h]))|simp(maxSteps:=4000000) (disch:=first|decide|assumption|omega|(simp only[wL];omega)) only[go_sem,simprocAttr,FXs,hat,htk,hdr,hLl,htl])
      ·have hex:ex=[]:=List.eq_nil_of_length_eq_zero (by omega)
       subst hex
       refine .of (.less ?_ (σ1:=(St.none.set nl1 (.row 26 5 [b.c])).set nl5 (.row 3 1 (L.map (fun c=>aS c.id)++[]++[aS x.id]))) (le2 (by simp[St.set, *]) (by simp[St.set, *]))) ⟨(i+1,nl5,[]),rfl,by simp[hsn],⟨by simp only;omega,by assumption⟩,by simp only;omega⟩
       simp(maxSteps:=4000000) (disch:=first|decide|assumption|omega|(simp only[wL];omega)) only[go_sem,simprocAttr,aC,aB]
       all_goals first|rfl|(simp[aB];done)
      ·refine .of (.less ?_ (σ1:=(St.none.set nl1 (.row 26 5 [b.c])).set nl5 (.row 3 1 (L.map (fun c=>aS c.id)++[aS x.id]++ex.drop 1))) (le2 (by simp[St.set, *]) (by simp[St.set, *]))) ⟨(i+1,nl5,ex.drop 1),rfl,by simp[hsn],⟨by simp only;omega,by assumption⟩,by simp only;omega⟩
       simp(maxSteps:=4000000) (disch:=first|decide|assumption|omega|(simp only[wL];omega)) only[go_sem,simprocAttr,aC,aB]
       all_goals first|rfl|(simp[aB];done)
     ·have:i=b.cards.length:=by omega
      subst this
      rw[List.take_length]
      repeat' (first|(with_reducible first|(refine wT ?_;(first|((fail_if_success (have:=nl1));refine wN fun nl1 hnl=>?_)|((fail_if_success (have:=nl2));refine wN fun nl2 hnl=>?_)|((fail_if_success (have:=nl3));refine wN fun nl3 hnl=>?_)|((fail_if_success (have:=nl4));refine wN fun nl4 hnl=>?_)|((fail_if_success (have:=nl5));refine wN fun nl5 hnl=>?_)|refine wN fun _ hnl=>?_);revert hnl;(repeat refine wS fun _ _=>?_);intro hnl)|refine wE ?_|(refine wK ?_ ?_<;>intro h)|(refine wB ?_ ?_<;>intro h<;>simp only[h]))|simp(maxSteps:=4000000) (disch:=first|decide|assumption|omega|(simp only[wL];omega)) only[go_sem,simprocAttr])
      have hK:(b.cards.map fun c=>aS c.id)=(b.cards.map CA.id).map aS:=by rw[List.map_map];rfl
      rw[hK]
      refine aJ (α:=Nat) (fun i=>⟨80,[(7,.int .i64 (i:Int)),(5,.lst 1 ((b.cards.map CA.id).map aS) false),(1,.ptr nl1 0 0)],[]⟩) (fun _=>St.none.set nl1 (.row 26 5 [b.c])) (fun i=>i≤b.gr.length∧∀g,g∈b.gr.take i→cB g.mem (b.cards.map CA.id)=[]) (fun i=>b.gr.length - i) (.of (bD.Lg (by simp[St.set,St.none, *]) ?_) ⟨0,rfl,rfl,Nat.zero_le _,by simp⟩) ?_
      ·intro p hp
       simp only[List.mem_cons,List.not_mem_nil,or_false] at hp
       rcases hp with rfl|rfl|rfl
       ·exact .same _
       ·exact dB (aK _ _ _) (by simp)
       ·exact .same _
      ·rintro i ⟨hi,hall⟩
       by_cases hlt:i<b.gr.length
       ·obtain⟨g,hg⟩:=bO b.gr hlt
        have hat:=bH (f:=GR.c) hg
        have hm:=Cv g.mem (b.cards.map CA.id) false false (h4 g (dS hg)) (by simpa using h1)
        obtain⟨M,hM⟩:∃M,cB g.mem (b.cards.map CA.id)=M:=⟨_,rfl⟩
        rw[hM] at hm
        have hMl:(M.map aS).length=M.length:=List.length_map _
        by_cases hb:M=[]
        ·subst hb
         repeat' (first|(with_reducible first|refine up hm ?_)|(with_reducible first|(refine wT ?_;(first|((fail_if_success (have:=nl1));refine wN fun nl1 hnl=>?_)|((fail_if_success (have:=nl2));refine wN fun nl2 hnl=>?_)|((fail_if_success (have:=nl3));refine wN fun nl3 hnl=>?_)|((fail_if_success (have:=nl4));refine wN fun nl4 hnl=>?_)|((fail_if_success (have:=nl5));refine wN fun nl5 hnl=>?_)|refine wN fun _ hnl=>?_);revert hnl;(repeat refine wS fun _ _=>?_);intro hnl)|refine wE ?_|(refine wK ?_ ?_<;>intro h)|(refine wB ?_ ?_<;>intro h<;>simp only[h]))|simp(maxSteps:=4000000) (disch:=first|decide|assumption|omega|(simp only[wL];omega)) only[go_sem,simprocAttr,hat])
         all_goals (try (exfalso;omega))
         all_goals
          refine .of (.less ?_ (St.le_refl _)) ⟨i+1,rfl,rfl,⟨by omega,fun e' h'=>?_⟩,by omega⟩
          ·simp(maxSteps:=4000000) (disch:=first|decide|assumption|omega|(simp only[wL];omega)) only[go_sem,simprocAttr,aC,aB]
           all_goals rfl
          ·rw[bB hg,List.mem_append,List.mem_singleton] at h'
           rcases h' with h'|rfl
           ·exact hall e' h'
           ·exact hM
        ·have hf:(b.gr.all fun g=>decide (cB g.mem (b.cards.map CA.id)=[]))=false:=List.all_eq_false.2 ⟨g,dS hg,by rw[hM,decide_eq_false hb];simp⟩
         rw[hf] at hres
         subst hres
         have hpos:0<M.length:=List.length_pos_iff.2 hb
         repeat' (first|(with_reducible first|refine up hm ?_)|(with_reducible first|(refine wT ?_;(first|((fail_if_success (have:=nl1));refine wN fun nl1 hnl=>?_)|((fail_if_success (have:=nl2));refine wN fun nl2 hnl=>?_)|((fail_if_success (have:=nl3));refine wN fun nl3 hnl=>?_)|((fail_if_success (have:=nl4));refine wN fun nl4 hnl=>?_)|((fail_if_success (have:=nl5));refine wN fun nl5 hnl=>?_)|refine wN fun _ hnl=>?_);revert hnl;(repeat refine wS fun _ _=>?_);intro hnl)|refine wE ?_|(refine wK ?_ ?_<;>intro h)|(refine wB ?_ ?_<;>intro h<;>simp only[h]))|simp(maxSteps:=4000000) (disch:=first|decide|assumption|omega|(simp only[wL];omega)) only[go_sem,simprocAttr,hat,hMl])
         all_goals first|exact⟨_,St.le_refl _,rfl⟩|exact⟨_,St.le_refl _⟩|(exfalso;omega)
       ·have:i=b.gr.length:=by omega
        subst this
        rw[List.take_length] at hall
        have ht:(b.gr.all fun g=>decide (cB g.mem (b.cards.map CA.id)=[]))=true:=List.all_eq_true.2 fun e h=>decide_eq_true (hall e h)
        rw[ht] at hres
        subst hres
        repeat' (first|(with_reducible first|(refine wT ?_;(first|((fail_if_success (have:=nl1));refine wN fun nl1 hnl=>?_)|((fail_if_success (have:=nl2));refine wN fun nl2 hnl=>?_)|((fail_if_success (have:=nl3));refine wN fun nl3 hnl=>?_)|((fail_if_success (have:=nl4));refine wN fun nl4 hnl=>?_)|((fail_if_success (have:=nl5));refine wN fun nl5 hnl=>?_)|refine wN fun _ hnl=>?_);revert hnl;(repeat refine wS fun _ _=>?_);intro hnl)|refine wE ?_|(refine wK ?_ ?_<;>intro h)|(refine wB ?_ ?_<;>intro h<;>simp only[h]))|simp(maxSteps:=4000000) (disch:=first|decide|assumption|omega|(simp only[wL];omega)) only[go_sem,simprocAttr])
        all_goals first|exact⟨_,St.le_refl _,rfl⟩|exact⟨_,St.le_refl _⟩
end

section
set_option maxRecDepth 100000
set_option maxHeartbeats 8000000
theorem r8{gr:List GR}(hg:dL (-1) gr=true){fl:List ND}(hp:b9 fl=0){c:CA}(hc:dU c=true)(id:Int)(hid:c.id=id)(tt:Bool):aA Tryz.prog 50 [.lst 5 (fl.map ND.c) tt,.agg c.c,.int .u32 (grB gr id:Int)] St.none (fun r _=>r=.bool (cU gr fl c)):=by
 obtain⟨h1,h2,h3⟩:=sT hp
 have hg':=Fm hg id
 have:=kH (mB c) ⟨c.f.h,s8 hc,c.lab.toNat_lt⟩ (grB gr id) (by omega) (nD fl) h1 (by rw[h2];omega) tt
 rw[h2] at this
 unfold cU
 rw[hid]
 exact this
theorem Ez(cs:List CA)(hl:cs.length≤1000000)(tt:Bool)(id:Int):aA Tryz.prog 49 [.lst 27 (cs.map CA.c) tt,.int .i64 id] St.none (fun r _=>r=.tup [.agg ((cs.find? fun c=>decide (c.id=id)).getD ca0).c,.bool (cs.find? fun c=>decide (c.id=id)).isSome]):=by
 refine aA.cD (aA.body 25 [.cell 4 42,.tmp 5] Tryz.func49 rfl rfl rfl rfl ?_)
 repeat' (first|(with_reducible first|(refine wT ?_;(first|((fail_if_success (have:=nl1));refine wN fun nl1 hnl=>?_)|refine wN fun _ hnl=>?_);revert hnl;(repeat refine wS fun _ _=>?_);intro hnl)|refine wE ?_|(refine wK ?_ ?_<;>intro h)|(refine wB ?_ ?_<;>intro h<;>simp only[h]))|simp(maxSteps:=4000000) (disch:=first|exact ddL|fail) only[go_sem,simprocAttr,Tryz.f49])
 refine aJ (α:=Nat) (fun i=>⟨25,[(6,.int .i64 (i:Int)),(5,.bool false),(4,.ptr nl1 0 0),(0,.lst 27 (cs.map CA.c) tt),(1,.int .i64 id)],[]⟩) (fun _=>St.none.set nl1 (.row 42 27 [ca0.c])) (fun i=>i≤cs.length∧∀c,c∈cs.take i→c.id≠id) (fun i=>cs.length - i) (.of (.less ?_ (St.le_refl _)) ⟨0,rfl,rfl,Nat.zero_le _,by simp⟩) ?_
 ·simp(maxSteps:=4000000) (disch:=first|exact ddL|fail) only[go_sem,simprocAttr,aC,aB]
  all_goals rfl
 ·rintro i ⟨hi,hq⟩
  by_cases hlt:i<cs.length
  ·obtain⟨y,hy⟩:=bO cs hlt
   have hat:=bH (f:=CA.c) hy
   by_cases he:y.id=id
   ·rw[Gn hq hy he]
    subst he
    simp only[Option.getD_some,Option.isSome_some]
    repeat' (first|(with_reducible first|(refine wT ?_;(first|((fail_if_success (have:=nl1));refine wN fun nl1 hnl=>?_)|refine wN fun _ hnl=>?_);revert hnl;(repeat refine wS fun _ _=>?_);intro hnl)|refine wE ?_|(refine wK ?_ ?_<;>intro h)|(refine wB ?_ ?_<;>intro h<;>simp only[h]))|simp(maxSteps:=4000000) (disch:=first|exact ddL|fail) only[go_sem,simprocAttr,FXs,hat])
    all_goals first|exact⟨_,St.le_refl _,rfl⟩|exact⟨_,St.le_refl _⟩|(exfalso;omega)|skip
   ·repeat' (first|(with_reducible first|(refine wT ?_;(first|((fail_if_success (have:=nl1));refine wN fun nl1 hnl=>?_)|refine wN fun _ hnl=>?_);revert hnl;(repeat refine wS fun _ _=>?_);intro hnl)|refine wE ?_|(refine wK ?_ ?_<;>intro h)|(refine wB ?_ ?_<;>intro h<;>simp only[h]))|simp(maxSteps:=4000000) (disch:=first|exact ddL|fail) only[go_sem,simprocAttr,FXs,hat])
    all_goals (try (exfalso;omega))
    all_goals
     refine .of (.less ?_ (St.le_refl _)) ⟨i+1,rfl,rfl,⟨by omega,fun c h'=>?_⟩,by omega⟩
     ·simp(maxSteps:=4000000) (disch:=first|exact ddL|fail) only[go_sem,simprocAttr,aC,aB]
      all_goals rfl
     ·rw[bB hy,List.mem_append,List.mem_singleton] at h'
      rcases h' with h'|rfl
      ·exact hq c h'
      ·exact he
  ·have:i=cs.length:=by omega
   subst this
   rw[List.take_length] at hq
   have hn:cs.find? (fun c=>decide (c.id=id))=none:=List.find?_eq_none.2 fun x hx=>by simpa using hq x hx
   rw[hn]
   repeat' (first|(with_reducible first|(refine wT ?_;(first|((fail_if_success (have:=nl1));refine wN fun nl1 hnl=>?_)|refine wN fun _ hnl=>?_);revert hnl;(repeat refine wS fun _ _=>?_);intro hnl)|refine wE ?_|(refine wK ?_ ?_<;>intro h)|(refine wB ?_ ?_<;>intro h<;>simp only[h]))|simp(maxSteps:=4000000) (disch:=first|exact ddL|fail) only[go_sem,simprocAttr,FXs])
   all_goals first|exact⟨_,St.le_refl _,rfl⟩|exact⟨_,St.le_refl _⟩|(exfalso;omega)|skip
theorem EE(c:CA)(m:UInt32):aA Tryz.prog 54 [.agg c.c,.int .u32 (m.toNat:Int)] St.none (fun r _=>r=.agg (fY c m).c):=by
 refine aA.cD (aA.body 32 [.cell 4 42] Tryz.func54 rfl rfl rfl rfl ?_)
 have hml:=EB m
 obtain⟨ml,hm8⟩:∃b,bit m.toNat 8=b:=⟨_,rfl⟩
 rw[hm8] at hml
 have hlab:(fY c m).c=.int .i64 c.id::.int .i64 c.ver::.int .u32 (((if ml=true then c.lab else 0:UInt32).toNat:Nat):Int)::fc (i7 c.f m.toNat 8):=by rw[←hm8];rfl
 rw[hlab]
 clear hm8 hlab
 obtain⟨lb,hlb⟩:∃lb:UInt32,(if ml=true then c.lab else 0)=lb:=⟨_,rfl⟩
 rw[hlb]
 have hb:∀i:Nat,i<8→aA Tryz.prog 100 [.int .u32 (m.toNat:Int),.int .i64 (i:Int)] St.none (fun r _=>r=.bool (bit m.toNat i)):=fun i h=>yN m i (by omega)
 cases ml
 all_goals simp only[Bool.false_eq_true,if_false,if_true] at hlb
 ·subst hlb
  repeat' (first|(with_reducible first|refine up hml ?_)|(with_reducible first|(refine wT ?_;(first|((fail_if_success (have:=nl1));refine wN fun nl1 hnl=>?_)|((fail_if_success (have:=nl2));refine wN fun nl2 hnl=>?_)|((fail_if_success (have:=nl3));refine wN fun nl3 hnl=>?_)|refine wN fun _ hnl=>?_);revert hnl;(repeat refine wS fun _ _=>?_);intro hnl)|refine wE ?_|(refine wK ?_ ?_<;>intro h)|(refine wB ?_ ?_<;>intro h<;>simp only[h]))|simp(maxSteps:=4000000) (disch:=first|exact ddL|fail) only[go_sem,simprocAttr,Tryz.f54,FXs])
  refine aJ (α:=Nat) (fun i=>⟨32,[(6,.int .i64 (i:Int)),(5,.ptr nl3 0 0),(4,.ptr nl2 0 0),(2,.ptr nl1 0 0),(1,.int .u32 (m.toNat:Int))],[]⟩)
   (fun i=>((St.none.set nl1 (.row 42 27 [c.c])).set nl2 (.row 42 27 [ca0.c])).set nl3 (.row 42 27 [.int .i64 c.id::.int .i64 c.ver::.int .u32 ((0:UInt32).toNat:Int)::fc (i7 c.f m.toNat i)])) (fun i=>i≤8) (fun i=>8 - i) (.of (.less ?_ (St.le_refl _)) ⟨0,rfl,rfl,Nat.zero_le _⟩) ?_
  ·simp(maxSteps:=4000000) (disch:=first|exact ddL|fail) only[go_sem,simprocAttr,aC,aB]
   all_goals rfl
  ·rintro i hi
   by_cases h8:i<8
   ·have hbi:=hb i h8
    have hsucc:i7 c.f m.toNat (i+1)=if bit m.toNat i=true then(i7 c.f m.toNat i).set i (c.f.get i) else i7 c.f m.toNat i:=rfl
    obtain⟨g,hg⟩:∃g,i7 c.f m.toNat i=g:=⟨_,rfl⟩
    rw[hg] at hsucc ⊢
    cases hbb:bit m.toNat i<;>rw[hbb] at hbi hsucc
    ·rw[if_neg (by simp)] at hsucc
     repeat' (first|(with_reducible first|refine up hbi ?_)|(with_reducible first|(refine wT ?_;(first|((fail_if_success (have:=nl1));refine wN fun nl1 hnl=>?_)|((fail_if_success (have:=nl2));refine wN fun nl2 hnl=>?_)|((fail_if_success (have:=nl3));refine wN fun nl3 hnl=>?_)|refine wN fun _ hnl=>?_);revert hnl;(repeat refine wS fun _ _=>?_);intro hnl)|refine wE ?_|(refine wK ?_ ?_<;>intro h)|(refine wB ?_ ?_<;>intro h<;>simp only[h]))|simp(maxSteps:=4000000) (disch:=first|exact ddL|fail) only[go_sem,simprocAttr,FXs])
     all_goals (try (exfalso;omega))
     all_goals
      refine .of (.less ?_ (St.le_refl _)) ⟨i+1,rfl,by rw[hsucc],by omega,by omega⟩
      simp(maxSteps:=4000000) (disch:=first|exact ddL|fail) only[go_sem,simprocAttr,aC,aB]
      all_goals rfl
    ·rw[if_pos rfl] at hsucc
     repeat' (first|(with_reducible first|refine up hbi ?_)|(with_reducible first|(refine wT ?_;(first|((fail_if_success (have:=nl1));refine wN fun nl1 hnl=>?_)|((fail_if_success (have:=nl2));refine wN fun nl2 hnl=>?_)|((fail_if_success (have:=nl3));refine wN fun nl3 hnl=>?_)|refine wN fun _ hnl=>?_);revert hnl;(repeat refine wS fun _ _=>?_);intro hnl)|refine wE ?_|(refine wK ?_ ?_<;>intro h)|(refine wB ?_ ?_<;>intro h<;>simp only[h]))|simp(maxSteps:=4000000) (disch:=first|exact ddL|fail) only[go_sem,simprocAttr,FXs])
     all_goals (try (exfalso;omega))
     all_goals
      refine .of (.less ?_ (St.le_refl _)) ⟨i+1,rfl,by rw[hsucc];first|rfl|skip,by omega,by omega⟩
      simp(maxSteps:=4000000) (disch:=first|exact ddL|fail) only[go_sem,simprocAttr,aC,aB]
      all_goals rfl
   ·have:i=8:=by omega
    subst this
    repeat' (first|(with_reducible first|(refine wT ?_;(first|((fail_if_success (have:=nl1));refine wN fun nl1 hnl=>?_)|((fail_if_success (have:=nl2));refine wN fun nl2 hnl=>?_)|((fail_if_success (have:=nl3));refine wN fun nl3 hnl=>?_)|refine wN fun _ hnl=>?_);revert hnl;(repeat refine wS fun _ _=>?_);intro hnl)|refine wE ?_|(refine wK ?_ ?_<;>intro h)|(refine wB ?_ ?_<;>intro h<;>simp only[h]))|simp(maxSteps:=4000000) (disch:=first|exact ddL|fail) only[go_sem,simprocAttr,FXs])
    all_goals first|exact⟨_,St.le_refl _,rfl⟩|exact⟨_,St.le_refl _⟩
 ·subst hlb
  repeat' (first|(with_reducible first|refine up hml ?_)|(with_reducible first|(refine wT ?_;(first|((fail_if_success (have:=nl1));refine wN fun nl1 hnl=>?_)|((fail_if_success (have:=nl2));refine wN fun nl2 hnl=>?_)|((fail_if_success (have:=nl3));refine wN fun nl3 hnl=>?_)|refine wN fun _ hnl=>?_);revert hnl;(repeat refine wS fun _ _=>?_);intro hnl)|refine wE ?_|(refine wK ?_ ?_<;>intro h)|(refine wB ?_ ?_<;>intro h<;>simp only[h]))|simp(maxSteps:=4000000) (disch:=first|exact ddL|fail) only[go_sem,simprocAttr,Tryz.f54,FXs])
  refine aJ (α:=Nat) (fun i=>⟨32,[(6,.int .i64 (i:Int)),(5,.ptr nl3 0 0),(4,.ptr nl2 0 0),(2,.ptr nl1 0 0),(1,.int .u32 (m.toNat:Int))],[]⟩)
   (fun i=>((St.none.set nl1 (.row 42 27 [c.c])).set nl2 (.row 42 27 [ca0.c])).set nl3 (.row 42 27 [.int .i64 c.id::.int .i64 c.ver::.int .u32 (c.lab.toNat:Int)::fc (i7 c.f m.toNat i)])) (fun i=>i≤8) (fun i=>8 - i) (.of (.less ?_ (St.le_refl _)) ⟨0,rfl,rfl,Nat.zero_le _⟩) ?_
  ·simp(maxSteps:=4000000) (disch:=first|exact ddL|fail) only[go_sem,simprocAttr,aC,aB]
   all_goals rfl
  ·rintro i hi
   by_cases h8:i<8
   ·have hbi:=hb i h8
    have hsucc:i7 c.f m.toNat (i+1)=if bit m.toNat i=true then(i7 c.f m.toNat i).set i (c.f.get i) else i7 c.f m.toNat i:=rfl
    obtain⟨g,hg⟩:∃g,i7 c.f m.toNat i=g:=⟨_,rfl⟩
    rw[hg] at hsucc ⊢
    cases hbb:bit m.toNat i<;>rw[hbb] at hbi hsucc
    ·rw[if_neg (by simp)] at hsucc
     repeat' (first|(with_reducible first|refine up hbi ?_)|(with_reducible first|(refine wT ?_;(first|((fail_if_success (have:=nl1));refine wN fun nl1 hnl=>?_)|((fail_if_success (have:=nl2));refine wN fun nl2 hnl=>?_)|((fail_if_success (have:=nl3));refine wN fun nl3 hnl=>?_)|refine wN fun _ hnl=>?_);revert hnl;(repeat refine wS fun _ _=>?_);intro hnl)|refine wE ?_|(refine wK ?_ ?_<;>intro h)|(refine wB ?_ ?_<;>intro h<;>simp only[h]))|simp(maxSteps:=4000000) (disch:=first|exact ddL|fail) only[go_sem,simprocAttr,FXs])
     all_goals (try (exfalso;omega))
     all_goals
      refine .of (.less ?_ (St.le_refl _)) ⟨i+1,rfl,by rw[hsucc],by omega,by omega⟩
      simp(maxSteps:=4000000) (disch:=first|exact ddL|fail) only[go_sem,simprocAttr,aC,aB]
      all_goals rfl
    ·rw[if_pos rfl] at hsucc
     repeat' (first|(with_reducible first|refine up hbi ?_)|(with_reducible first|(refine wT ?_;(first|((fail_if_success (have:=nl1));refine wN fun nl1 hnl=>?_)|((fail_if_success (have:=nl2));refine wN fun nl2 hnl=>?_)|((fail_if_success (have:=nl3));refine wN fun nl3 hnl=>?_)|refine wN fun _ hnl=>?_);revert hnl;(repeat refine wS fun _ _=>?_);intro hnl)|refine wE ?_|(refine wK ?_ ?_<;>intro h)|(refine wB ?_ ?_<;>intro h<;>simp only[h]))|simp(maxSteps:=4000000) (disch:=first|exact ddL|fail) only[go_sem,simprocAttr,FXs])
     all_goals (try (exfalso;omega))
     all_goals
      refine .of (.less ?_ (St.le_refl _)) ⟨i+1,rfl,by rw[hsucc];first|rfl|skip,by omega,by omega⟩
      simp(maxSteps:=4000000) (disch:=first|exact ddL|fail) only[go_sem,simprocAttr,aC,aB]
      all_goals rfl
   ·have:i=8:=by omega
    subst this
    repeat' (first|(with_reducible first|(refine wT ?_;(first|((fail_if_success (have:=nl1));refine wN fun nl1 hnl=>?_)|((fail_if_success (have:=nl2));refine wN fun nl2 hnl=>?_)|((fail_if_success (have:=nl3));refine wN fun nl3 hnl=>?_)|refine wN fun _ hnl=>?_);revert hnl;(repeat refine wS fun _ _=>?_);intro hnl)|refine wE ?_|(refine wK ?_ ?_<;>intro h)|(refine wB ?_ ?_<;>intro h<;>simp only[h]))|simp(maxSteps:=4000000) (disch:=first|exact ddL|fail) only[go_sem,simprocAttr,FXs])
    all_goals first|exact⟨_,St.le_refl _,rfl⟩|exact⟨_,St.le_refl _⟩
end

section
set_option maxRecDepth 100000
set_option maxHeartbeats 8000000
theorem Cy(b:BK)(hb:BkR b)(h3:b.gr.length≤1000000)(h4:∀g,g∈b.gr→g.mem.length≤1000000)(fl:List ND)(hp:b9 fl=0)(tt:Bool)(id:Int) :
  aA Tryz.prog 14 [.agg b.c,.lst 5 (fl.map ND.c) tt,.int .i64 id] St.none (fun r _=>r=.tup [.agg ((shown b fl id).getD ca0).c,.bool (shown b fl id).isSome]):=by
 refine aA.cD (aA.body 31 [.cell 6 42,.tmp 7] Tryz.func14 rfl rfl rfl rfl ?_)
 have hf:=Ez b.cards (by have:=hb.nc;omega) false id
 have ho:=uY b.gr false h3 h4 hb.gok id
 unfold shown
 cases hfi:b.cards.find? (fun c=>decide (c.id=id)) with
 | none =>
  rw[hfi] at hf
  simp only[Option.getD_none,Option.isSome_none] at hf ⊢
  repeat' (first|(with_reducible first|refine up hf ?_)|(with_reducible first|(refine wN fun _ hnl=>?_;revert hnl;(repeat refine wS fun _ _=>?_);intro hnl)|refine wE ?_|(refine wK ?_ ?_<;>intro h)|(refine wB ?_ ?_<;>intro h<;>simp only[h]))|simp(maxSteps:=4000000) (disch:=first|decide|assumption|omega|(simp only[wL];omega)) only[go_sem,simprocAttr,Tryz.f14,FXs])
  obtain⟨C,c1⟩:∃C:bT,∀ms,C 51 ms=some ⟨[],fun v=>v=.bool true,none⟩:=⟨zG 51 (.bool true),fun _=>jS⟩
  refine aT mixed (by decide +kernel) C ?_
  repeat' (first|(with_reducible first|(refine wN fun _ hnl=>?_;revert hnl;(repeat refine wS fun _ _=>?_);intro hnl)|refine wE ?_|(refine wK ?_ ?_<;>intro h)|(refine wB ?_ ?_<;>intro h<;>simp only[h]))|simp(maxSteps:=4000000) (disch:=first|decide|assumption|omega|(simp only[wL];omega)) only[go_sem,simprocAttr,FXs])
  all_goals first|exact⟨_,St.le_refl _,rfl⟩|exact⟨_,St.le_refl _⟩
 | some c =>
  rw[hfi] at hf
  have hcm:=List.mem_of_find?_eq_some hfi
  have hid:c.id=id:=by simpa using List.find?_some hfi
  have hm:=r8 hb.gok hp (pG hb hcm).1 id hid tt
  simp only[Option.getD_some,Option.isSome_some] at hf ⊢
  obtain⟨C,c1,c2⟩:∃C:bT,(∀ms,C 51 ms=some ⟨[],fun v=>v=.int .u32 (grB b.gr id:Int),none⟩)∧∀ms,C 50 ms=some ⟨[],fun v=>v=.bool (cU b.gr fl c),none⟩ :=
   ⟨fnF [(51,⟨[],fun v=>v=.int .u32 (grB b.gr id:Int),none⟩),(50,⟨[],fun v=>v=.bool (cU b.gr fl c),none⟩)],fun _=>bN,fun _=>bE bN⟩
  obtain⟨sb,hsb⟩:∃x,cU b.gr fl c=x:=⟨_,rfl⟩
  rw[hsb] at hm c2 ⊢
  obtain⟨gb,hgb⟩:∃x,grB b.gr id=x:=⟨_,rfl⟩
  rw[hgb] at hm ho c1
  repeat' (first|(with_reducible first|refine up hf ?_)|(with_reducible first|(refine wN fun _ hnl=>?_;revert hnl;(repeat refine wS fun _ _=>?_);intro hnl)|refine wE ?_|(refine wK ?_ ?_<;>intro h)|(refine wB ?_ ?_<;>intro h<;>simp only[h]))|simp(maxSteps:=4000000) (disch:=first|decide|assumption|omega|(simp only[wL];omega)) only[go_sem,simprocAttr,Tryz.f14,FXs])
  refine aT mixed (by decide +kernel) C ?_
  cases sb
  all_goals
   repeat' (first|(with_reducible refine aP (c1 _) ho ?_)|(with_reducible refine aP (c2 _) hm ?_)|(with_reducible first|(refine wN fun _ hnl=>?_;revert hnl;(repeat refine wS fun _ _=>?_);intro hnl)|refine wE ?_|(refine wK ?_ ?_<;>intro h)|(refine wB ?_ ?_<;>intro h<;>simp only[h]))|simp(maxSteps:=4000000) (disch:=first|decide|assumption|omega|(simp only[wL];omega)) only[go_sem,simprocAttr,FXs])
   all_goals first|exact⟨_,St.le_refl _,rfl⟩|exact⟨_,St.le_refl _⟩
theorem Ba{α:Type}{l:List α}{p:α→Bool}{i:Nat}{x:α}(h:l[i]?=some x):(l.take (i+1)).filter p=(l.take i).filter p++if p x=true then[x] else[]:=by
 rw[bB h,List.filter_append,List.filter_cons]
 split<;>simp
theorem rX(b:BK)(hb:BkR b)(h3:b.gr.length≤1000000)(h4:∀g,g∈b.gr→g.mem.length≤1000000)(fl:List ND)(hp:b9 fl=0)(tt:Bool)(m:UInt32)(cur:Int) :
  aA Tryz.prog 20 [.agg b.c,.lst 5 (fl.map ND.c) tt,.int .u32 (m.toNat:Int),.int .i64 cur] St.none (fun r _=>r=.lst 27 ((fQ b fl m cur).map CA.c) false):=by
 refine aA.seen (aA.body 46 [.tmp 8] Tryz.func20 rfl rfl rfl rfl ?_)
 unfold fQ
 rw[List.map_map]
 obtain⟨P,hP⟩:∃P:CA→Bool,(fun c:CA=>decide (c.id≤cur)&&cU b.gr fl c)=P:=⟨_,rfl⟩
 have hPx:∀c:CA,P c=(decide (c.id≤cur)&&cU b.gr fl c):=fun c=>by rw[←hP]
 rw[hP]
 clear hP
 obtain⟨pj,hpj⟩:∃f:CA→List MV,(CA.c ∘ fun c=>fY c m)=f:=⟨_,rfl⟩
 have hpx:∀c:CA,pj c=(fY c m).c:=fun c=>by rw[←hpj];rfl
 rw[hpj]
 clear hpj
 have hcl:=hb.nc
 repeat' (first|(with_reducible first|(refine wT ?_;(first|((fail_if_success (have:=nl1));refine wN fun nl1 hnl=>?_)|((fail_if_success (have:=nl2));refine wN fun nl2 hnl=>?_)|((fail_if_success (have:=nl3));refine wN fun nl3 hnl=>?_)|((fail_if_success (have:=nl4));refine wN fun nl4 hnl=>?_)|((fail_if_success (have:=nl5));refine wN fun nl5 hnl=>?_)|refine wN fun _ hnl=>?_);revert hnl;(repeat refine wS fun _ _=>?_);intro hnl)|refine wE ?_|(refine wK ?_ ?_<;>intro h)|(refine wB ?_ ?_<;>intro h<;>simp only[h]))|simp(maxSteps:=4000000) (disch:=first|decide|assumption|omega|(simp only[wL];omega)) only[go_sem,simprocAttr,Tryz.f20])
 refine aJ (α:=Nat × Nat × List (List MV)) (fun s=>⟨46,[(10,.int .i64 (s.1:Int)),(9,.vec 27 s.2.1 0 ((b.cards.take s.1).filter P).length),(4,.ptr nl1 0 0),(1,.lst 5 (fl.map ND.c) tt),(2,.int .u32 (m.toNat:Int)),(3,.int .i64 cur)],[]⟩)
  (fun s=>(St.none.set nl1 (.row 26 5 [b.c])).set s.2.1 (.row 42 27 (((b.cards.take s.1).filter P).map pj++s.2.2))) (fun s=>s.1≤b.cards.length∧s.2.1≠nl1) (fun s=>b.cards.length - s.1) ?_ ?_
 ·refine .of (.less ?_ (St.le_refl _)) ⟨(0,nl2,[]),rfl,by simp,Nat.zero_le _,by assumption⟩
  simp(maxSteps:=4000000) (disch:=first|decide|assumption|omega|(simp only[wL];omega)) only[go_sem,simprocAttr,aC,aB]
  all_goals first|rfl|(simp[aB];done)
 ·rintro⟨i,q,ex⟩ ⟨hi,hq⟩
  simp only at hi hq ⊢
  have hq':=Ne.symm hq
  by_cases hlt:i<b.cards.length
  ·obtain⟨x,hx⟩:=bO b.cards hlt
   have hat:=bH (f:=CA.c) hx
   have hsn:=Ba (p:=P) hx
   have hxx:=hPx x
   have hxm:=dS hx
   have ho:=uY b.gr false h3 h4 hb.gok x.id
   have hm:=r8 hb.gok hp (pG hb hxm).1 x.id rfl tt
   have hpr:=EE x m
   rw[←hpx] at hpr
   obtain⟨sb,hsb⟩:∃z,cU b.gr fl x=z:=⟨_,rfl⟩
   obtain⟨gb,hgb⟩:∃z,grB b.gr x.id=z:=⟨_,rfl⟩
   rw[hgb] at hm ho
   rw[hsb] at hm hxx
   have hfl:((b.cards.take i).filter P).length≤i:=Nat.le_trans (List.length_filter_le _ _) (by rw[List.length_take];omega)
   obtain⟨L,hL⟩:∃L,(b.cards.take i).filter P=L:=⟨_,rfl⟩
   rw[hL] at hsn hfl ⊢
   obtain⟨y,hy⟩:∃y,pj x=y:=⟨_,rfl⟩
   have hyl:y.length=27:=by rw[←hy,hpx];simp[CA.c,bY]
   have hyc:y.all MV.aO=true:=by rw[←hy,hpx];simp only[CA.c,List.all_cons,cG];rfl
   rw[hy] at hpr
   obtain⟨C,c1,c2⟩:∃C:bT,(∀ms,C 51 ms=some ⟨[],fun v=>v=.int .u32 (gb:Int),none⟩)∧∀ms,C 50 ms=some ⟨[],fun v=>v=.bool sb,none⟩ :=
    ⟨fnF [(51,⟨[],fun v=>v=.int .u32 (gb:Int),none⟩),(50,⟨[],fun v=>v=.bool sb,none⟩)],fun _=>bN,fun _=>bE bN⟩
   have htk:(L.map pj++ex).take L.length=L.map pj:=j6
   have hdr:(L.map pj++ex).drop (L.length+1)=ex.drop 1:=kM
   have hLl:(L.map pj).length=L.length:=List.length_map _
   by_cases hc:x.id≤cur
   ·rw[decide_eq_true hc,Bool.true_and] at hxx
    cases sb
    ·rw[hxx,if_neg (by simp),List.append_nil] at hsn
     repeat' (first|(with_reducible first|(refine wT ?_;(first|((fail_if_success (have:=nl1));refine wN fun nl1 hnl=>?_)|((fail_if_success (have:=nl2));refine wN fun nl2 hnl=>?_)|((fail_if_success (have:=nl3));refine wN fun nl3 hnl=>?_)|((fail_if_success (have:=nl4));refine wN fun nl4 hnl=>?_)|((fail_if_success (have:=nl5));refine wN fun nl5 hnl=>?_)|refine wN fun _ hnl=>?_);revert hnl;(repeat refine wS fun _ _=>?_);intro hnl)|refine wE ?_|(refine wK ?_ ?_<;>intro h)|(refine wB ?_ ?_<;>intro h<;>simp only[h]))|simp(maxSteps:=4000000) (disch:=first|decide|assumption|omega|(simp only[wL];omega)) only[go_sem,simprocAttr,FXs,hat])
     refine aT mixed (by decide +kernel) C ?_
     repeat' (first|(with_reducible refine aP (c1 _) ho ?_)|(with_reducible refine aP (c2 _) hm ?_)|(with_reducible first|(refine wT ?_;(first|((fail_if_success (have:=nl1));refine wN fun nl1 hnl=>?_)|((fail_if_success (have:=nl2));refine wN fun nl2 hnl=>?_)|((fail_if_success (have:=nl3));refine wN fun nl3 hnl=>?_)|((fail_if_success (have:=nl4));refine wN fun nl4 hnl=>?_)|((fail_if_success (have:=nl5));refine wN fun nl5 hnl=>?_)|refine wN fun _ hnl=>?_);revert hnl;(repeat refine wS fun _ _=>?_);intro hnl)|refine wE ?_|(refine wK ?_ ?_<;>intro h)|(refine wB ?_ ?_<;>intro h<;>simp only[h]))|simp(maxSteps:=4000000) (disch:=first|decide|assumption|omega|(simp only[wL];omega)) only[go_sem,simprocAttr,FXs])
     all_goals (try (exfalso;omega))
     all_goals
      refine .of (.less ?_ (σ1:=(St.none.set nl1 (.row 26 5 [b.c])).set q (.row 42 27 (L.map pj++ex))) (le2 (by simp[St.set, *]) (by simp[St.set, *]))) ⟨(i+1,q,ex),rfl,by simp only[hsn],⟨by simp only;omega,hq⟩,by simp only;omega⟩
      simp only[hsn]
      simp(maxSteps:=4000000) (disch:=first|decide|assumption|omega|(simp only[wL];omega)) only[go_sem,simprocAttr,aC,aB]
      all_goals first|rfl|(simp[aB];done)
    ·rw[hxx,if_pos rfl] at hsn
     repeat' (first|(with_reducible first|(refine wT ?_;(first|((fail_if_success (have:=nl1));refine wN fun nl1 hnl=>?_)|((fail_if_success (have:=nl2));refine wN fun nl2 hnl=>?_)|((fail_if_success (have:=nl3));refine wN fun nl3 hnl=>?_)|((fail_if_success (have:=nl4));refine wN fun nl4 hnl=>?_)|((fail_if_success (have:=nl5));refine wN fun nl5 hnl=>?_)|refine wN fun _ hnl=>?_);revert hnl;(repeat refine wS fun _ _=>?_);intro hnl)|refine wE ?_|(refine wK ?_ ?_<;>intro h)|(refine wB ?_ ?_<;>intro h<;>simp only[h]))|simp(maxSteps:=4000000) (disch:=first|decide|assumption|omega|(simp only[wL];omega)) only[go_sem,simprocAttr,FXs,hat])
     refine aT mixed (by decide +kernel) C ?_
     repeat' (first|(with_reducible refine aP (c1 _) ho ?_)|(with_reducible refine aP (c2 _) hm ?_)|(with_reducible refine aL hpr ?_)|(with_reducible first|(refine wT ?_;(first|((fail_if_success (have:=nl1));refine wN fun nl1 hnl=>?_)|((fail_if_success (have:=nl2));refine wN fun nl2 hnl=>?_)|((fail_if_success (have:=nl3));refine wN fun nl3 hnl=>?_)|((fail_if_success (have:=nl4));refine wN fun nl4 hnl=>?_)|((fail_if_success (have:=nl5));refine wN fun nl5 hnl=>?_)|refine wN fun _ hnl=>?_);revert hnl;(repeat refine wS fun _ _=>?_);intro hnl)|refine wE ?_|(refine wK ?_ ?_<;>intro h)|(refine wB ?_ ?_<;>intro h<;>simp only[h]))|simp(maxSteps:=4000000) (disch:=first|decide|assumption|omega|(simp only[wL];omega)) only[go_sem,simprocAttr,FXs,hat,htk,hdr,hLl,hyl,hyc])
     ·have hex:ex=[]:=List.eq_nil_of_length_eq_zero (by omega)
      subst hex
      refine .of (.less ?_ (σ1:=(St.none.set nl1 (.row 26 5 [b.c])).set nl5 (.row 42 27 (L.map pj++[]++[y]))) (le2 (by simp[St.set, *]) (by simp[St.set, *]))) ⟨(i+1,nl5,[]),rfl,by simp[hsn,hy],⟨by simp only;omega,by assumption⟩,by simp only;omega⟩
      simp only[hsn]
      simp(maxSteps:=4000000) (disch:=first|decide|assumption|omega|(simp only[wL];omega)) only[go_sem,simprocAttr,aC,aB]
      all_goals first|rfl|(simp[aB];done)
     ·refine .of (.less ?_ (σ1:=(St.none.set nl1 (.row 26 5 [b.c])).set nl5 (.row 42 27 (L.map pj++[y]++ex.drop 1))) (le2 (by simp[St.set, *]) (by simp[St.set, *]))) ⟨(i+1,nl5,ex.drop 1),rfl,by simp[hsn,hy],⟨by simp only;omega,by assumption⟩,by simp only;omega⟩
      simp only[hsn]
      simp(maxSteps:=4000000) (disch:=first|decide|assumption|omega|(simp only[wL];omega)) only[go_sem,simprocAttr,aC,aB]
      all_goals first|rfl|(simp[aB];done)
   ·rw[decide_eq_false hc,Bool.false_and] at hxx
    rw[hxx,if_neg (by simp),List.append_nil] at hsn
    repeat' (first|(with_reducible first|(refine wT ?_;(first|((fail_if_success (have:=nl1));refine wN fun nl1 hnl=>?_)|((fail_if_success (have:=nl2));refine wN fun nl2 hnl=>?_)|((fail_if_success (have:=nl3));refine wN fun nl3 hnl=>?_)|((fail_if_success (have:=nl4));refine wN fun nl4 hnl=>?_)|((fail_if_success (have:=nl5));refine wN fun nl5 hnl=>?_)|refine wN fun _ hnl=>?_);revert hnl;(repeat refine wS fun _ _=>?_);intro hnl)|refine wE ?_|(refine wK ?_ ?_<;>intro h)|(refine wB ?_ ?_<;>intro h<;>simp only[h]))|simp(maxSteps:=4000000) (disch:=first|decide|assumption|omega|(simp only[wL];omega)) only[go_sem,simprocAttr,FXs,hat])
    refine aT mixed (by decide +kernel) C ?_
    repeat' (first|(with_reducible refine aP (c1 _) ho ?_)|(with_reducible refine aP (c2 _) hm ?_)|(with_reducible first|(refine wT ?_;(first|((fail_if_success (have:=nl1));refine wN fun nl1 hnl=>?_)|((fail_if_success (have:=nl2));refine wN fun nl2 hnl=>?_)|((fail_if_success (have:=nl3));refine wN fun nl3 hnl=>?_)|((fail_if_success (have:=nl4));refine wN fun nl4 hnl=>?_)|((fail_if_success (have:=nl5));refine wN fun nl5 hnl=>?_)|refine wN fun _ hnl=>?_);revert hnl;(repeat refine wS fun _ _=>?_);intro hnl)|refine wE ?_|(refine wK ?_ ?_<;>intro h)|(refine wB ?_ ?_<;>intro h<;>simp only[h]))|simp(maxSteps:=4000000) (disch:=first|decide|assumption|omega|(simp only[wL];omega)) only[go_sem,simprocAttr,FXs])
    all_goals (try (exfalso;omega))
    all_goals
     refine .of (.less ?_ (σ1:=(St.none.set nl1 (.row 26 5 [b.c])).set q (.row 42 27 (L.map pj++ex))) (le2 (by simp[St.set, *]) (by simp[St.set, *]))) ⟨(i+1,q,ex),rfl,by simp only[hsn],⟨by simp only;omega,hq⟩,by simp only;omega⟩
     simp only[hsn]
     simp(maxSteps:=4000000) (disch:=first|decide|assumption|omega|(simp only[wL];omega)) only[go_sem,simprocAttr,aC,aB]
     all_goals first|rfl|(simp[aB];done)
  ·have:i=b.cards.length:=by omega
   subst this
   rw[List.take_length]
   repeat' (first|(with_reducible first|(refine wT ?_;(first|((fail_if_success (have:=nl1));refine wN fun nl1 hnl=>?_)|((fail_if_success (have:=nl2));refine wN fun nl2 hnl=>?_)|((fail_if_success (have:=nl3));refine wN fun nl3 hnl=>?_)|((fail_if_success (have:=nl4));refine wN fun nl4 hnl=>?_)|((fail_if_success (have:=nl5));refine wN fun nl5 hnl=>?_)|refine wN fun _ hnl=>?_);revert hnl;(repeat refine wS fun _ _=>?_);intro hnl)|refine wE ?_|(refine wK ?_ ?_<;>intro h)|(refine wB ?_ ?_<;>intro h<;>simp only[h]))|simp(maxSteps:=4000000) (disch:=first|decide|assumption|omega|(simp only[wL];omega)) only[go_sem,simprocAttr])
   exact dB (aK _ _ _) (by simp)
theorem GB{b:BK}(hb:BkR b)(fl:List ND):((fQ b fl 0 1073741824).map CA.id)=Bh b fl:=by
 unfold fQ Bh
 rw[List.map_map]
 have e:b.cards.filter (fun c=>decide (c.id≤1073741824)&&cU b.gr fl c)=b.cards.filter (cU b.gr fl):=List.filter_congr fun c hc=>by
  rw[decide_eq_true (by have:=(pG hb hc).2.2;omega),Bool.true_and]
 rw[e]
 rfl
theorem HW(b:BK)(hb:BkR b)(h3:b.gr.length≤1000000)(h4:∀g,g∈b.gr→g.mem.length≤1000000)(fl:List ND)(hp:b9 fl=0)(tt:Bool) :
  aA Tryz.prog 18 [.agg b.c,.lst 5 (fl.map ND.c) tt] St.none (fun r _=>r=.lst 1 ((Bh b fl).map aS) false):=by
 refine aA.seen (aA.body 27 [.tmp 4] Tryz.func18 rfl rfl rfl rfl ?_)
 rw[←GB hb,List.map_map]
 have hi:=rX b hb h3 h4 fl hp tt 0 1073741824
 rw[NJ] at hi
 have hL:(fQ b fl 0 1073741824).length≤48:=by
  unfold fQ
  rw[List.length_map]
  exact Nat.le_trans (List.length_filter_le _ _) hb.nc
 obtain⟨W,hW⟩:∃W,fQ b fl 0 1073741824=W:=⟨_,rfl⟩
 rw[hW] at hi hL ⊢
 have hWl:(W.map CA.c).length=W.length:=List.length_map _
 repeat' (first|(with_reducible first|refine up hi ?_)|(with_reducible first|(refine wT ?_;(first|((fail_if_success (have:=nl1));refine wN fun nl1 hnl=>?_)|((fail_if_success (have:=nl2));refine wN fun nl2 hnl=>?_)|((fail_if_success (have:=nl3));refine wN fun nl3 hnl=>?_)|((fail_if_success (have:=nl4));refine wN fun nl4 hnl=>?_)|refine wN fun _ hnl=>?_);revert hnl;(repeat refine wS fun _ _=>?_);intro hnl)|refine wE ?_|(refine wK ?_ ?_<;>intro h)|(refine wB ?_ ?_<;>intro h<;>simp only[h]))|simp(maxSteps:=4000000) (disch:=first|decide|assumption|omega|(simp only[wL];omega)) only[go_sem,simprocAttr,Tryz.f18])
 refine aJ (α:=Nat × Nat × List (List MV)) (fun s=>⟨27,[(7,.int .i64 (s.1:Int)),(6,.vec 1 s.2.1 0 s.1),(5,.lst 27 (W.map CA.c) false)],[]⟩)
  (fun s=>St.none.set s.2.1 (.row 3 1 ((W.take s.1).map (aS ∘ CA.id)++s.2.2))) (fun s=>s.1≤W.length) (fun s=>W.length - s.1) ?_ ?_
 ·refine .of (.less ?_ (σ1:=St.none.set nl2 (.row 3 1 [])) (St.aG (St.none_le _) (by simp[St.set, *]))) ⟨(0,nl2,[]),rfl,by simp,Nat.zero_le _⟩
  simp(maxSteps:=4000000) (disch:=first|decide|assumption|omega|(simp only[wL];omega)) only[go_sem,simprocAttr,aC,aB]
  all_goals first|rfl|(simp[aB];done)
 ·rintro⟨i,q,ex⟩ hi'
  simp only at hi' ⊢
  by_cases hlt:i<W.length
  ·obtain⟨x,hx⟩:=bO W hlt
   have hat:=bH (f:=CA.c) hx
   have hsn:=bB hx
   have htl:(W.take i).length=i:=by rw[List.length_take];omega
   obtain⟨L,hL'⟩:∃L,W.take i=L:=⟨_,rfl⟩
   rw[hL'] at hsn htl ⊢
   have htk:(L.map (aS ∘ CA.id)++ex).take i=L.map (aS ∘ CA.id):=by rw[←htl];exact j6
   have hdr:(L.map (aS ∘ CA.id)++ex).drop (i+1)=ex.drop 1:=by rw[←htl];exact kM
   have hLl:(L.map (aS ∘ CA.id)).length=i:=by rw[List.length_map,htl]
   repeat' (first|(with_reducible first|(refine wT ?_;(first|((fail_if_success (have:=nl1));refine wN fun nl1 hnl=>?_)|((fail_if_success (have:=nl2));refine wN fun nl2 hnl=>?_)|((fail_if_success (have:=nl3));refine wN fun nl3 hnl=>?_)|((fail_if_success (have:=nl4));refine wN fun nl4 hnl=>?_)|refine wN fun _ hnl=>?_);revert hnl;(repeat refine wS fun _ _=>?_);intro hnl)|refine wE ?_|(refine wK ?_ ?_<;>intro h)|(refine wB ?_ ?_<;>intro h<;>simp only[h]))|simp(maxSteps:=4000000) (disch:=first|decide|assumption|omega|(simp only[wL];omega)) only[go_sem,simprocAttr,FXs,hat,htk,hdr,hLl,htl,hWl])
   ·have hex:ex=[]:=List.eq_nil_of_length_eq_zero (by omega)
    subst hex
    refine .of (.less ?_ (σ1:=St.none.set nl4 (.row 3 1 (L.map (aS ∘ CA.id)++[]++[aS x.id]))) (St.aG (St.none_le _) (by simp[St.set, *]))) ⟨(i+1,nl4,[]),rfl,by simp[hsn],by simp only;omega,by simp only;omega⟩
    simp(maxSteps:=4000000) (disch:=first|decide|assumption|omega|(simp only[wL];omega)) only[go_sem,simprocAttr,aC,aB]
    all_goals first|rfl|(simp[aB];done)
   ·refine .of (.less ?_ (σ1:=St.none.set nl4 (.row 3 1 (L.map (aS ∘ CA.id)++[aS x.id]++ex.drop 1))) (St.aG (St.none_le _) (by simp[St.set, *]))) ⟨(i+1,nl4,ex.drop 1),rfl,by simp[hsn],by simp only;omega,by simp only;omega⟩
    simp(maxSteps:=4000000) (disch:=first|decide|assumption|omega|(simp only[wL];omega)) only[go_sem,simprocAttr,aC,aB]
    all_goals first|rfl|(simp[aB];done)
  ·have:i=W.length:=by omega
   subst this
   rw[List.take_length]
   repeat' (first|(with_reducible first|(refine wT ?_;(first|((fail_if_success (have:=nl1));refine wN fun nl1 hnl=>?_)|((fail_if_success (have:=nl2));refine wN fun nl2 hnl=>?_)|((fail_if_success (have:=nl3));refine wN fun nl3 hnl=>?_)|((fail_if_success (have:=nl4));refine wN fun nl4 hnl=>?_)|refine wN fun _ hnl=>?_);revert hnl;(repeat refine wS fun _ _=>?_);intro hnl)|refine wE ?_|(refine wK ?_ ?_<;>intro h)|(refine wB ?_ ?_<;>intro h<;>simp only[h]))|simp(maxSteps:=4000000) (disch:=first|decide|assumption|omega|(simp only[wL];omega)) only[go_sem,simprocAttr,hWl])
   exact dB (aK _ _ _) (by simp)
end

section
set_option maxRecDepth 100000
set_option maxHeartbeats 8000000
def SuF(l:List SU):Prop:=∀x,x∈l→x.fl.length≤1000000∧x.mem.length≤1000000∧x.log.length≤1000000
end

section
set_option maxRecDepth 100000
set_option maxHeartbeats 8000000
structure SaF (s:SA):Prop where
 nc:s.bk.cards.length≤1000000
 nd:s.bk.dead.length≤1000000
 ng:s.bk.gr.length≤1000000
 nm:∀g,g∈s.bk.gr→g.mem.length≤1000000
 ns:s.subs.length≤1000000
 sf:SuF s.subs
 nr:s.rows.length≤1000000
 nf:∀r,r∈s.rows→r.ans.fl.length≤1000000
end

section
set_option maxRecDepth 100000
set_option maxHeartbeats 8000000
theorem Em(l:List ND)(hl:l.length≤1000000)(tt:Bool)(h:b9 l=0):aA Tryz.prog 12 [.lst 5 (l.map ND.c) tt] St.none (fun v σ'=>∃q,v=.ptr q 0 0∧σ'=St.none.set q (flO (.lst 5 (l.map ND.c) false) 0 0 .nilfn)):=by
 refine(aA.body 10 [.tmp 2] Tryz.func12 rfl rfl rfl rfl ?_)
 have c1:=As l hl tt
 have c2:=AZ l hl tt
 rw[h] at c1
 repeat' (first|(with_reducible first|refine up c1 ?_|refine up c2 ?_)|(with_reducible first|(refine wN fun _ hnl=>?_;revert hnl;(repeat refine wS fun _ _=>?_);intro hnl)|refine wE ?_|(refine wK ?_ ?_<;>intro h)|(refine wB ?_ ?_<;>intro h<;>simp only[h]))|simp(maxSteps:=4000000) (disch:=first|decide|assumption|omega|(simp only[wL];omega)) only[go_sem,simprocAttr,Tryz.f12])
 all_goals exact⟨_,rfl,rfl⟩
theorem HR(l:List Int)(tt:Bool)(hl:l.length≤1000000):aA Tryz.prog 81 [.lst 1 (l.map aS) tt] St.none (fun r _=>r=.bool (gJ 0 l)):=by
 refine aA.cD (aA.body 21 [.tmp 2] Tryz.func81 rfl rfl rfl rfl ?_)
 obtain⟨res,hres⟩:∃z,gJ 0 l=z:=⟨_,rfl⟩
 rw[hres]
 repeat' (first|(with_reducible first|(refine wN fun _ hnl=>?_;revert hnl;(repeat refine wS fun _ _=>?_);intro hnl)|refine wE ?_|(refine wK ?_ ?_<;>intro h)|(refine wB ?_ ?_<;>intro h<;>simp only[h]))|simp(maxSteps:=4000000) (disch:=first|decide|assumption|omega|(simp only[wL];omega)) only[go_sem,simprocAttr,Tryz.f81])
 refine aJ (α:=Nat) (fun i=>⟨21,[(8,.int .i64 (i:Int)),(7,.int .i64 (l.length:Int)),(6,.lst 1 (l.map aS) tt),(3,.int .i64 (cF l i 0))],[]⟩) (fun _=>St.none) (fun i=>i≤l.length∧0≤cF l i 0∧res=gJ (cF l i 0) (l.drop i)) (fun i=>l.length - i) (.of (.less ?_ (St.le_refl _)) ⟨0,rfl,rfl,Nat.zero_le _,Int.le_refl _,hres.symm⟩) ?_
 ·simp(maxSteps:=4000000) (disch:=first|decide|assumption|omega|(simp only[wL];omega)) only[go_sem,simprocAttr,aC,aB]
  all_goals rfl
 ·rintro i ⟨hi,hp,hq⟩
  by_cases hlt:i<l.length
  ·obtain⟨x,hx⟩:=bO l hlt
   rw[eJ hx,gJ] at hq
   have hat:=bH (f:=aS) hx
   have hnext:=fS hx (z:=0)
   obtain⟨last,hlast⟩:∃k,cF l i 0=k:=⟨_,rfl⟩
   rw[hlast] at hq hp ⊢
   unfold gI at hq
   by_cases hr:last<x∧1≤x∧x<1073741824
   ·rw[decide_eq_true hr,Bool.true_and] at hq
    obtain⟨hr1,hr2,hr3⟩:=hr
    repeat' (first|(with_reducible first|(refine wN fun _ hnl=>?_;revert hnl;(repeat refine wS fun _ _=>?_);intro hnl)|refine wE ?_|(refine wK ?_ ?_<;>intro h)|(refine wB ?_ ?_<;>intro h<;>simp only[h]))|simp(maxSteps:=4000000) (disch:=first|decide|assumption|omega|(simp only[wL];omega)) only[go_sem,simprocAttr,hat])
    all_goals (try (exfalso;omega))
    all_goals
     refine .of (.less ?_ (St.none_le _)) ⟨i+1,rfl,rfl,⟨by omega,by rw[hnext];omega,by rw[hnext];exact hq⟩,by omega⟩
     rw[hnext]
     simp(maxSteps:=4000000) (disch:=first|decide|assumption|omega|(simp only[wL];omega)) only[go_sem,simprocAttr,aC,aB]
     all_goals rfl
   ·rw[decide_eq_false hr,Bool.false_and] at hq
    subst hq
    repeat' (first|(with_reducible first|(refine wN fun _ hnl=>?_;revert hnl;(repeat refine wS fun _ _=>?_);intro hnl)|refine wE ?_|(refine wK ?_ ?_<;>intro h)|(refine wB ?_ ?_<;>intro h<;>simp only[h]))|simp(maxSteps:=4000000) (disch:=first|decide|assumption|omega|(simp only[wL];omega)) only[go_sem,simprocAttr,hat])
    all_goals first|exact⟨_,St.le_refl _,rfl⟩|exact⟨_,St.le_refl _⟩|(exfalso;omega)
  ·have:i=l.length:=by omega
   subst this
   rw[List.drop_length,gJ] at hq
   rw[hq]
   repeat' (first|(with_reducible first|(refine wN fun _ hnl=>?_;revert hnl;(repeat refine wS fun _ _=>?_);intro hnl)|refine wE ?_|(refine wK ?_ ?_<;>intro h)|(refine wB ?_ ?_<;>intro h<;>simp only[h]))|simp(maxSteps:=4000000) (disch:=first|decide|assumption|omega|(simp only[wL];omega)) only[go_sem,simprocAttr])
   all_goals first|exact⟨_,St.le_refl _,rfl⟩|exact⟨_,St.le_refl _⟩
theorem HQ(l:List GR)(tt:Bool)(hl:l.length≤1000000)(hm:∀g,g∈l→g.mem.length≤1000000):aA Tryz.prog 41 [.lst 2 (l.map GR.c) tt] St.none (fun r _=>r=.bool (dL (-1) l)):=by
 refine aA.cD (aA.body 30 [.tmp 2] Tryz.func41 rfl rfl rfl rfl ?_)
 obtain⟨res,hres⟩:∃z,dL (-1) l=z:=⟨_,rfl⟩
 rw[hres]
 repeat' (first|(with_reducible first|(refine wN fun _ hnl=>?_;revert hnl;(repeat refine wS fun _ _=>?_);intro hnl)|refine wE ?_|(refine wK ?_ ?_<;>intro h)|(refine wB ?_ ?_<;>intro h<;>simp only[h]))|simp(maxSteps:=4000000) (disch:=first|decide|assumption|omega|(simp only[wL];omega)) only[go_sem,simprocAttr,Tryz.f41])
 refine aJ (α:=Nat) (fun i=>⟨30,[(8,.int .i64 (i:Int)),(7,.int .i64 (l.length:Int)),(6,.lst 2 (l.map GR.c) tt),(3,.int .i64 (cF (l.map GR.no) i (-1)))],[]⟩) (fun _=>St.none) (fun i=>i≤l.length∧-1≤cF (l.map GR.no) i (-1)∧res=dL (cF (l.map GR.no) i (-1)) (l.drop i)) (fun i=>l.length - i) (.of (.less ?_ (St.le_refl _)) ⟨0,rfl,rfl,Nat.zero_le _,Int.le_refl _,hres.symm⟩) ?_
 ·simp(maxSteps:=4000000) (disch:=first|decide|assumption|omega|(simp only[wL];omega)) only[go_sem,simprocAttr,aC,aB]
  all_goals rfl
 ·rintro i ⟨hi,hp,hq⟩
  by_cases hlt:i<l.length
  ·obtain⟨x,hx⟩:=bO l hlt
   rw[eJ hx,dL] at hq
   have hat:=bH (f:=GR.c) hx
   have hnext:=fS (gZ (f:=GR.no) hx) (z:=-1)
   have hc:=HR x.mem false (hm x (dS hx))
   obtain⟨last,hlast⟩:∃k,cF (l.map GR.no) i (-1)=k:=⟨_,rfl⟩
   rw[hlast] at hq hp ⊢
   obtain⟨ok,hok⟩:∃b,gJ 0 x.mem=b:=⟨_,rfl⟩
   rw[hok] at hc hq
   by_cases hr:last<x.no∧0≤x.no∧x.no<16
   ·rw[decide_eq_true hr,Bool.true_and] at hq
    obtain⟨hr1,hr2,hr3⟩:=hr
    cases ok
    ·rw[Bool.false_and] at hq
     subst hq
     repeat' (first|(with_reducible first|refine up hc ?_)|(with_reducible first|(refine wN fun _ hnl=>?_;revert hnl;(repeat refine wS fun _ _=>?_);intro hnl)|refine wE ?_|(refine wK ?_ ?_<;>intro h)|(refine wB ?_ ?_<;>intro h<;>simp only[h]))|simp(maxSteps:=4000000) (disch:=first|decide|assumption|omega|(simp only[wL];omega)) only[go_sem,simprocAttr,hat])
     all_goals first|exact⟨_,St.le_refl _,rfl⟩|exact⟨_,St.le_refl _⟩|(exfalso;omega)
    ·rw[Bool.true_and] at hq
     repeat' (first|(with_reducible first|refine up hc ?_)|(with_reducible first|(refine wN fun _ hnl=>?_;revert hnl;(repeat refine wS fun _ _=>?_);intro hnl)|refine wE ?_|(refine wK ?_ ?_<;>intro h)|(refine wB ?_ ?_<;>intro h<;>simp only[h]))|simp(maxSteps:=4000000) (disch:=first|decide|assumption|omega|(simp only[wL];omega)) only[go_sem,simprocAttr,hat])
     all_goals (try (exfalso;omega))
     all_goals
      refine .of (.less ?_ (St.none_le _)) ⟨i+1,rfl,rfl,⟨by omega,by rw[hnext];omega,by rw[hnext];exact hq⟩,by omega⟩
      rw[hnext]
      simp(maxSteps:=4000000) (disch:=first|decide|assumption|omega|(simp only[wL];omega)) only[go_sem,simprocAttr,aC,aB]
      all_goals rfl
   ·rw[decide_eq_false hr,Bool.false_and,Bool.false_and] at hq
    subst hq
    repeat' (first|(with_reducible first|refine up hc ?_)|(with_reducible first|(refine wN fun _ hnl=>?_;revert hnl;(repeat refine wS fun _ _=>?_);intro hnl)|refine wE ?_|(refine wK ?_ ?_<;>intro h)|(refine wB ?_ ?_<;>intro h<;>simp only[h]))|simp(maxSteps:=4000000) (disch:=first|decide|assumption|omega|(simp only[wL];omega)) only[go_sem,simprocAttr,hat])
    all_goals first|exact⟨_,St.le_refl _,rfl⟩|exact⟨_,St.le_refl _⟩|(exfalso;omega)
  ·have:i=l.length:=by omega
   subst this
   rw[List.drop_length,dL] at hq
   rw[hq]
   repeat' (first|(with_reducible first|(refine wN fun _ hnl=>?_;revert hnl;(repeat refine wS fun _ _=>?_);intro hnl)|refine wE ?_|(refine wK ?_ ?_<;>intro h)|(refine wB ?_ ?_<;>intro h<;>simp only[h]))|simp(maxSteps:=4000000) (disch:=first|decide|assumption|omega|(simp only[wL];omega)) only[go_sem,simprocAttr])
   all_goals first|exact⟨_,St.le_refl _,rfl⟩|exact⟨_,St.le_refl _⟩
theorem CE(d:DE)(id:Int):aA Tryz.prog 123 [.agg d.c,.cptr [.int .i64 id]] St.none (fun r _=>r=.bool (decide (d.id=id))):=by
 refine aA.cD (aA.body 8 [.tmp 3] Tryz.func123 rfl rfl rfl rfl ?_)
 repeat' (first|(with_reducible first|(refine wN fun _ hnl=>?_;revert hnl;(repeat refine wS fun _ _=>?_);intro hnl)|refine wE ?_|(refine wK ?_ ?_<;>intro h)|(refine wB ?_ ?_<;>intro h<;>simp only[h]))|simp(maxSteps:=4000000) (disch:=first|decide|assumption|omega|(simp only[wL];omega)) only[go_sem,simprocAttr,Tryz.f123])
 all_goals first|exact⟨_,St.le_refl _,rfl⟩|exact⟨_,St.le_refl _⟩
theorem Bk(l:List DE)(hl:l.length≤1000000)(t:Bool)(id:Int) :
  aA Tryz.prog 158 [.lst 3 (l.map DE.c) t,.fn (.func 123) [] [.cptr [.int .i64 id]]] St.none (fun r _=>r=.int .i64 (fV (l.map DE.id) id)):=by
 refine aA.cD (aA.body 19 [.tmp 4] Tryz.func158 rfl rfl rfl rfl ?_)
 repeat' (first|(with_reducible first|(refine wN fun _ hnl=>?_;revert hnl;(repeat refine wS fun _ _=>?_);intro hnl)|refine wE ?_|(refine wK ?_ ?_<;>intro h)|(refine wB ?_ ?_<;>intro h<;>simp only[h]))|simp(maxSteps:=4000000) (disch:=first|decide|assumption|omega|(simp only[wL];omega)) only[go_sem,simprocAttr,Tryz.f158])
 refine aJ (α:=Nat) (fun k=>⟨19,[(8,.int .i64 (k:Int)),(7,.int .i64 (l.length:Int)),(6,.lst 3 (l.map DE.c) t),(0,.lst 3 (l.map DE.c) t),(1,.fn (.func 123) [] [.cptr [.int .i64 id]])],[]⟩) (fun _=>St.none)
  (fun k=>k≤l.length∧id∉(l.take k).map DE.id) (fun k=>l.length - k) (.of (.less ?_ (St.le_refl _)) ⟨0,rfl,rfl,Nat.zero_le _,by simp⟩) ?_
 ·simp(maxSteps:=4000000) (disch:=first|decide|assumption|omega|(simp only[wL];omega)) only[go_sem,simprocAttr,aC,aB]
  all_goals rfl
 ·rintro k ⟨h1,h2⟩
  by_cases hk:k<l.length
  ·obtain⟨d,hd⟩:=bO l hk
   have hat:=bH (f:=DE.c) hd
   have hc:=CE d id
   by_cases he:d.id=id
   ·rw[decide_eq_true he] at hc
    have hi':=IZ (gZ (f:=DE.id) hd) (by rw[he,←List.map_take];exact h2)
    have hm:=dS (gZ (f:=DE.id) hd)
    rw[he] at hi' hm
    have hp:fV (l.map DE.id) id=k:=by unfold fV;rw[if_pos hm,hi']
    rw[hp]
    repeat' (first|(with_reducible first|refine up hc ?_)|(with_reducible first|(refine wN fun _ hnl=>?_;revert hnl;(repeat refine wS fun _ _=>?_);intro hnl)|refine wE ?_|(refine wK ?_ ?_<;>intro h)|(refine wB ?_ ?_<;>intro h<;>simp only[h]))|simp(maxSteps:=4000000) (disch:=first|decide|assumption|omega|(simp only[wL];omega)) only[go_sem,simprocAttr,hat])
    all_goals first|exact⟨_,St.le_refl _,rfl⟩|exact⟨_,St.le_refl _⟩
   ·rw[decide_eq_false he] at hc
    repeat' (first|(with_reducible first|refine up hc ?_)|(with_reducible first|(refine wN fun _ hnl=>?_;revert hnl;(repeat refine wS fun _ _=>?_);intro hnl)|refine wE ?_|(refine wK ?_ ?_<;>intro h)|(refine wB ?_ ?_<;>intro h<;>simp only[h]))|simp(maxSteps:=4000000) (disch:=first|decide|assumption|omega|(simp only[wL];omega)) only[go_sem,simprocAttr,hat])
    refine .of (.less ?_ (St.le_refl _)) ⟨k+1,rfl,rfl,⟨by omega,?_⟩,by omega⟩
    ·simp(maxSteps:=4000000) (disch:=first|decide|assumption|omega|(simp only[wL];omega)) only[go_sem,simprocAttr,aC,aB]
     all_goals rfl
    ·rw[bB hd,List.map_append,List.mem_append]
     simpa using⟨by simpa using h2,Ne.symm he⟩
  ·have:k=l.length:=by omega
   subst this
   rw[List.take_length] at h2
   have hp:fV (l.map DE.id) id = -1:=by unfold fV;rw[if_neg h2]
   rw[hp]
   repeat' (first|(with_reducible first|(refine wN fun _ hnl=>?_;revert hnl;(repeat refine wS fun _ _=>?_);intro hnl)|refine wE ?_|(refine wK ?_ ?_<;>intro h)|(refine wB ?_ ?_<;>intro h<;>simp only[h]))|simp(maxSteps:=4000000) (disch:=first|decide|assumption|omega|(simp only[wL];omega)) only[go_sem,simprocAttr])
   all_goals first|exact⟨_,St.le_refl _,rfl⟩|exact⟨_,St.le_refl _⟩
theorem tC(l:List DE)(hl:l.length≤1000000)(t:Bool)(id:Int) :
  aA Tryz.prog 122 [.lst 3 (l.map DE.c) t,.fn (.func 123) [] [.cptr [.int .i64 id]]] St.none (fun r _=>r=.bool (decide (id∈l.map DE.id))):=by
 refine aA.cD (aA.body 9 [.tmp 4] Tryz.func122 rfl rfl rfl rfl ?_)
 have hi:=Bk l hl t id
 have hn:=uR (l:=l.map DE.id) (x:=id)
 obtain⟨k,hk⟩:∃k,fV (l.map DE.id) id=k:=⟨_,rfl⟩
 rw[hk] at hi hn
 have e:decide (id∈l.map DE.id)=decide (0≤k):=decide_eq_decide.mpr ⟨fun h=>by
  have:¬k<0:=fun h'=>(hn ▸ h') h
  omega,fun h=>Classical.not_not.1 fun h'=>by
  have:k<0:=hn ▸ h'
  omega⟩
 rw[e]
 repeat' (first|(with_reducible first|refine up hi ?_)|(with_reducible first|(refine wN fun _ hnl=>?_;revert hnl;(repeat refine wS fun _ _=>?_);intro hnl)|refine wE ?_|(refine wK ?_ ?_<;>intro h)|(refine wB ?_ ?_<;>intro h<;>simp only[h]))|simp(maxSteps:=4000000) (disch:=first|decide|assumption|omega|(simp only[wL];omega)) only[go_sem,simprocAttr,Tryz.f122])
 all_goals first|exact⟨_,St.le_refl _,rfl⟩|exact⟨_,St.le_refl _⟩|(refine⟨_,St.le_refl _,?_⟩;simp[*])
end

section
set_option maxRecDepth 100000
set_option maxHeartbeats 8000000
def gH(cs:List CA)(ds:List DE)(id:Int):CA × Int :=
 match cs.find? (fun c=>decide (c.id=id)) with
 | some c=>(c,0)
 | none=>(ca0,if id∈ds.map DE.id then 9 else 6)
theorem xV{id:Int}:∀cs:List CA,fC id (cEs cs)=(cs.find? fun c=>decide (c.id=id)).map fun c=>.agg c.c
 | []=>rfl
 | c::cs=>by
  have ih:=xV (id:=id) cs
  simp only[cEs,List.map_cons,fC,List.find?_cons] at ih ⊢
  by_cases h:c.id=id
  ·simp[h]
  ·simp[h,ih]
abbrev shS(nx:Int)(m l q:Nat)(cs:List CA)(ds:List DE)(ex:List (List MV)):St:=((St.none.set m (.mp (cEs cs))).set l (shO nx m (.vec 3 q 0 ds.length))).set q (.row 90 3 (ds.map DE.c++ex))
theorem o6(nx:Int){m l q:Nat}(hlm:l≠m)(hqm:q≠m)(hql:q≠l)(cs:List CA)(ds:List DE)(hd:ds.length≤1000000)(ex:List (List MV))(id:Int) :
  aA Tryz.prog 80 [.ptr l 0 0,.int .i64 id] (shS nx m l q cs ds ex) (fun v σ'=>v=.tup [.agg (gH cs ds id).1.c,.int .i64 (gH cs ds id).2]∧σ'=shS nx m l q cs ds ex):=by
 refine aA.less (Q':=fun v σ'=>v=.tup [.agg (gH cs ds id).1.c,.int .i64 (gH cs ds id).2]∧(shS nx m l q cs ds ex).le σ') (aA.body 30 [.cell 4 42,.tmp 5] Tryz.func80 rfl rfl rfl rfl ?_) fun v σ' h=>⟨_,h.2,h.1,rfl⟩
 have hall:=pM cs
 have hg:=xV (id:=id) cs
 have hml:=Ne.symm hlm
 have hmq:=Ne.symm hqm
 have hlq:=Ne.symm hql
 have hc:=tC ds hd false id
 have hle:∀{σ:St},σ m=some (.mp (cEs cs))→σ l=some (shO nx m (.vec 3 q 0 ds.length))→σ q=some (.row 90 3 (ds.map DE.c++ex))→(shS nx m l q cs ds ex).le σ:=fun h1 h2 h3=>St.aG (St.aG (St.aG (St.none_le _) h1) h2) h3
 unfold gH
 show R (dD Tryz.prog _ _ (((St.none.set m (.mp (cEs cs))).set l (shO nx m (.vec 3 q 0 ds.length))).set q (.row 90 3 (ds.map DE.c++ex))) _)
 cases hf:cs.find? (fun c=>decide (c.id=id)) with
 | some c =>
  rw[hf,Option.map_some] at hg
  simp only
  repeat' (first|(with_reducible first|(refine wT ?_;(first|((fail_if_success (have:=nl1));refine wN fun nl1 hnl=>?_)|refine wN fun _ hnl=>?_);revert hnl;(repeat refine wS fun _ _=>?_);intro hnl)|refine wE ?_|(refine wK ?_ ?_<;>intro h)|(refine wB ?_ ?_<;>intro h<;>simp only[h]))|simp(maxSteps:=4000000) (disch:=first|exact ddL|fail) only[go_sem,simprocAttr,Tryz.f80,Option.getD_some,Option.getD_none,Option.isSome_some,Option.isSome_none,FYs,hg,hall])
  all_goals first|exact hle (by simp[St.set, *]) (by simp[St.set, *]) (by simp[St.set, *])|exact⟨rfl,hle (by simp[St.set, *]) (by simp[St.set, *]) (by simp[St.set, *])⟩
 | none =>
  rw[hf,Option.map_none] at hg
  simp only
  have hv:∀{σ:St} {b:Nat},σ b=some (.row 3 1 [[.int .i64 id]])→σ q=some (.row 90 3 (ds.map DE.c++ex))→∀(i:Nat) (x x':MV),[MV.vec 3 q 0 ds.length,.fn (.func 123) [] [.ptr b 0 0]][i]?=some x→[MV.lst 3 (ds.map DE.c) false,.fn (.func 123) [] [.cptr [.int .i64 id]]][i]?=some x'→View σ x x':=fun h1 h2 =>
   nS (dB h2 (by simp)) (.fn rfl (rJ (View.ptr (i:=0) (o:=0) h1 (by simp))))
  by_cases hm:id∈ds.map DE.id
  ·rw[decide_eq_true hm] at hc
   rw[if_pos hm]
   repeat' (first|(refine vM [.lst 3 (ds.map DE.c) false,.fn (.func 123) [] [.cptr [.int .i64 id]]] hc (by constructor) rfl (hv (b:=nl1) (by simp[St.set, *]) (by simp[St.set, *])) ?_)|(with_reducible first|(refine wT ?_;(first|((fail_if_success (have:=nl1));refine wN fun nl1 hnl=>?_)|refine wN fun _ hnl=>?_);revert hnl;(repeat refine wS fun _ _=>?_);intro hnl)|refine wE ?_|(refine wK ?_ ?_<;>intro h)|(refine wB ?_ ?_<;>intro h<;>simp only[h]))|simp(maxSteps:=4000000) (disch:=first|exact ddL|fail) only[go_sem,simprocAttr,Tryz.f80,Option.getD_some,Option.getD_none,Option.isSome_some,Option.isSome_none,FYs,hg,hall])
   all_goals first|exact hle (by simp[St.set, *]) (by simp[St.set, *]) (by simp[St.set, *])|exact⟨rfl,hle (by simp[St.set, *]) (by simp[St.set, *]) (by simp[St.set, *])⟩
  ·rw[decide_eq_false hm] at hc
   rw[if_neg hm]
   repeat' (first|(refine vM [.lst 3 (ds.map DE.c) false,.fn (.func 123) [] [.cptr [.int .i64 id]]] hc (by constructor) rfl (hv (b:=nl1) (by simp[St.set, *]) (by simp[St.set, *])) ?_)|(with_reducible first|(refine wT ?_;(first|((fail_if_success (have:=nl1));refine wN fun nl1 hnl=>?_)|refine wN fun _ hnl=>?_);revert hnl;(repeat refine wS fun _ _=>?_);intro hnl)|refine wE ?_|(refine wK ?_ ?_<;>intro h)|(refine wB ?_ ?_<;>intro h<;>simp only[h]))|simp(maxSteps:=4000000) (disch:=first|exact ddL|fail) only[go_sem,simprocAttr,Tryz.f80,Option.getD_some,Option.getD_none,Option.isSome_some,Option.isSome_none,FYs,hg,hall])
   all_goals first|exact hle (by simp[St.set, *]) (by simp[St.set, *]) (by simp[St.set, *])|exact⟨rfl,hle (by simp[St.set, *]) (by simp[St.set, *]) (by simp[St.set, *])⟩
end

section
set_option maxRecDepth 100000
set_option maxHeartbeats 8000000
theorem tO{c:CA}:∀{cs:List CA},c.id∉cs.map CA.id→mM .i64 c.id (.agg c.c) (cEs cs)=cEs (cs++[c])
 | [],_=>rfl
 | d::cs,h=>by
  simp only[List.map_cons,List.mem_cons,not_or] at h
  have ih:=tO h.2
  simp only[cEs,List.map_cons,List.cons_append,mM] at ih ⊢
  rw[if_neg (Ne.symm h.1),ih]
theorem IU{cs:List CA}{ds:List DE}{id:Int}:((gH cs ds id).2=6)=(id∉cs.map CA.id∧id∉ds.map DE.id):=by
 apply propext
 unfold gH
 cases hf:cs.find? (fun c=>decide (c.id=id)) with
 | some c =>
  have hm:=List.mem_of_find?_eq_some hf
  have he:=List.find?_some hf
  simp only[decide_eq_true_eq] at he
  have:id∈cs.map CA.id:=List.mem_map.2 ⟨c,hm,he⟩
  simp[this]
 | none =>
  have h0:=List.find?_eq_none.1 hf
  have:id∉cs.map CA.id:=fun h=>by
   obtain⟨c,hc,he⟩:=List.mem_map.1 h
   exact h0 c hc (by simpa using he)
  by_cases hd:id∈ds.map DE.id
  ·simp[this,hd]
  ·simp[this,hd]
theorem K8{nx:Int}{cs:List CA}{pre:List DE}{d:DE}{s:Int}(h1:∀e,e∈pre→e.sq≤s)(h2:0≤s)(h3:s=0∨∃e,e∈pre∧e.sq=s) :
  IJ nx cs pre d=decide (1≤d.id∧d.id<nx∧1≤d.ver∧d.ver≤1099511627776∧s≤d.sq∧d.sq≤1099511627776∧(gH cs pre d.id).2=6):=by
 rw[Bool.eq_iff_iff]
 unfold IJ big
 simp only[Bool.and_eq_true,decide_eq_true_eq,List.all_eq_true,IU]
 constructor
 ·rintro⟨⟨⟨a1,a2,a3,a4,a5,a6⟩,b⟩,c⟩
  refine⟨a1,a2,a3,a4,?_,a6,b,fun h=>?_⟩
  ·rcases h3 with rfl|⟨e,he,rfl⟩
   ·exact a5
   ·exact(c e he).2
  ·obtain⟨e,he,hid⟩:=List.mem_map.1 h
   exact(c e he).1 hid
 ·rintro⟨a1,a2,a3,a4,a5,a6,b,c⟩
  exact⟨⟨⟨a1,a2,a3,a4,by omega,a6⟩,b⟩,fun e he=>⟨fun hid=>c (List.mem_map.2 ⟨e,he,hid⟩),Int.le_trans (h1 e he) a5⟩⟩
end
end Go.Proofs.YtaojijkdamfbnaaGreatDoor
