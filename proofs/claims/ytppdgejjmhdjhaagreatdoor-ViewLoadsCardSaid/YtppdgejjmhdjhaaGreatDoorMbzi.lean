/- Parts of the proof, joined; conditions: those that its theorems name. -/
import Derived.Test.YtppdgejjmhdjhaaGreatDoorMbzd
import Derived.Test.YtppdgejjmhdjhaaGreatDoorMbzg
import Derived.Test.YtppdgejjmhdjhaaGreatDoorMbzh
set_option linter.unusedVariables false
set_option linter.unusedSimpArgs false
set_option maxHeartbeats 4000000
namespace Go.Proofs.YtppdgejjmhdjhaaGreatDoor
section
set_option maxRecDepth 100000
set_option maxHeartbeats 8000000
structure SET where
 bk:BK
 fl:List ND
 mask:UInt32
 cur:Int
abbrev SET.c(s:SET):List MV:=s.bk.c++[.lst 5 (s.fl.map ND.c) false,.int .u32 (s.mask.toNat:Int),.int .i64 s.cur]
structure Fit (s:SET):Prop where
 ok:kG s.bk=true
 nc:s.bk.cards.length≤60
 nd:s.bk.dead.length≤60
 ng:s.bk.gr.length≤1000000
 nm:∀g,g∈s.bk.gr→g.mem.length≤1000000
 fl:bF s.fl=0
 mok:s.mask.toNat≤511
end

section
set_option maxRecDepth 100000
set_option maxHeartbeats 8000000
def fH(f p:F8)(L:List Nat):F8:=L.foldl (fun g i=>g.set i (p.get i)) f
def eY(c:CA)(p:PA):CA:=⟨c.id,if c.ver<big then c.ver+1 else c.ver,if bit p.mask.toNat 8=true then p.lab else c.lab,fH c.f p.f (bJ p.mask.toNat)⟩
theorem r0(c:CA)(p:PA)(h0:0≤c.ver):aA Tryz.prog 213 [.agg c.c,.agg p.c] St.none (fun r _=>r=.agg (eY c p).c):=by
 refine(aA.body 37 [.cell 4 126] Tryz.func213 rfl rfl rfl rfl ?_)
 have hml:=o6 p.mask
 have hfl:=p8 p.mask
 have hbl:=qQ p.mask.toNat
 obtain⟨ml,hm8⟩:∃b,bit p.mask.toNat 8=b:=⟨_,rfl⟩
 rw[hm8] at hml
 have hlab:(eY c p).c=.int .i64 c.id::.int .i64 (if c.ver<1099511627776 then c.ver+1 else c.ver)::.int .u32 (((if ml=true then p.lab else c.lab:UInt32).toNat:Nat):Int)::fc (fH c.f p.f (bJ p.mask.toNat)):=by rw[←hm8];rfl
 rw[hlab]
 clear hm8 hlab
 have hlt:∀i,i∈bJ p.mask.toNat→i<8:=fun i=>tJ
 obtain⟨L,hL⟩:∃L,bJ p.mask.toNat=L:=⟨_,rfl⟩
 rw[hL] at hfl hbl hlt ⊢
 have hll:(cX L).length=L.length:=List.length_map _
 by_cases hv:c.ver<1099511627776<;>cases ml
 all_goals simp only[hv,Bool.false_eq_true,if_false,if_true]
 ·skip
  repeat' (first|(with_reducible first|refine up hml ?_|refine up hfl ?_)|(with_reducible first|(refine wT ?_;(first|((fail_if_success (have:=nl1));refine wN fun nl1 hnl=>?_)|((fail_if_success (have:=nl2));refine wN fun nl2 hnl=>?_)|((fail_if_success (have:=nl3));refine wN fun nl3 hnl=>?_)|refine wN fun _ hnl=>?_);revert hnl;(repeat refine wS fun _ _=>?_);intro hnl)|refine wE ?_|(refine wK ?_ ?_<;>intro h)|(refine wB ?_ ?_<;>intro h<;>simp only[h]))|simp(maxSteps:=4000000) (disch:=first|exact ddL|fail) only[go_sem,simprocAttr,Tryz.f213,FXs,hll,hv])
  refine aF (α:=Nat) (fun i=>⟨37,[(24,.int .i64 (i:Int)),(23,.int .i64 (L.length:Int)),(22,.lst 1 (cX L) false),(4,.ptr nl3 0 0),(3,.ptr nl2 0 0),(2,.ptr nl1 0 0)],[]⟩)
   (fun i=>((St.none.set nl1 (.row 126 27 [.int .i64 c.id::.int .i64 (c.ver+1)::.int .u32 (c.lab.toNat:Int)::fc (fH c.f p.f (L.take i))])).set nl2 (.row 57 26 [p.c])).set nl3 (.row 126 27 [ca0.c])) (fun i=>i≤L.length) (fun i=>L.length - i) (.of (.less ?_ (St.le_refl _)) ⟨0,rfl,rfl,Nat.zero_le _⟩) ?_
  ·simp(maxSteps:=4000000) (disch:=first|exact ddL|fail) only[go_sem,simprocAttr,aC,aB]
   all_goals first|rfl|(simp;done)
  ·intro i hi
   have hi:i≤L.length:=hi
   by_cases hlt':i<L.length
   ·obtain⟨k,hk⟩:=bI L hlt'
    have hat:(cX L).getD i []=[.int .i64 (k:Int)]:=by rw[List.getD_eq_getElem?_getD,List.getElem?_map,hk];rfl
    have hk8:=hlt k (cZ hk)
    have hsucc:fH c.f p.f (L.take (i+1))=(fH c.f p.f (L.take i)).set k (p.f.get k):=by rw[aV hk,fH,List.foldl_append];rfl
    obtain⟨g,hg⟩:∃g,fH c.f p.f (L.take i)=g:=⟨_,rfl⟩
    rw[hg] at hsucc ⊢
    repeat' (first|(with_reducible first|(refine wT ?_;(first|((fail_if_success (have:=nl1));refine wN fun nl1 hnl=>?_)|((fail_if_success (have:=nl2));refine wN fun nl2 hnl=>?_)|((fail_if_success (have:=nl3));refine wN fun nl3 hnl=>?_)|refine wN fun _ hnl=>?_);revert hnl;(repeat refine wS fun _ _=>?_);intro hnl)|refine wE ?_|(refine wK ?_ ?_<;>intro h)|(refine wB ?_ ?_<;>intro h<;>simp only[h]))|simp(maxSteps:=4000000) (disch:=first|exact ddL|fail) only[go_sem,simprocAttr,FXs,hat,hll])
    all_goals (try (exfalso;omega))
    all_goals
     refine .of (.less ?_ (St.le_refl _)) ⟨i+1,rfl,by rw[hsucc];first|rfl|skip,(by omega:i+1≤L.length),by omega⟩
     simp(maxSteps:=4000000) (disch:=first|exact ddL|fail) only[go_sem,simprocAttr,aC,aB]
     all_goals first|rfl|(simp;done)
   ·have:i=L.length:=by omega
    subst this
    rw[List.take_length]
    repeat' (first|(with_reducible first|(refine wT ?_;(first|((fail_if_success (have:=nl1));refine wN fun nl1 hnl=>?_)|((fail_if_success (have:=nl2));refine wN fun nl2 hnl=>?_)|((fail_if_success (have:=nl3));refine wN fun nl3 hnl=>?_)|refine wN fun _ hnl=>?_);revert hnl;(repeat refine wS fun _ _=>?_);intro hnl)|refine wE ?_|(refine wK ?_ ?_<;>intro h)|(refine wB ?_ ?_<;>intro h<;>simp only[h]))|simp(maxSteps:=4000000) (disch:=first|exact ddL|fail) only[go_sem,simprocAttr,FXs])
    all_goals first|exact⟨_,St.le_refl _,rfl⟩|exact⟨_,St.le_refl _⟩|rfl
 ·skip
  repeat' (first|(with_reducible first|refine up hml ?_|refine up hfl ?_)|(with_reducible first|(refine wT ?_;(first|((fail_if_success (have:=nl1));refine wN fun nl1 hnl=>?_)|((fail_if_success (have:=nl2));refine wN fun nl2 hnl=>?_)|((fail_if_success (have:=nl3));refine wN fun nl3 hnl=>?_)|refine wN fun _ hnl=>?_);revert hnl;(repeat refine wS fun _ _=>?_);intro hnl)|refine wE ?_|(refine wK ?_ ?_<;>intro h)|(refine wB ?_ ?_<;>intro h<;>simp only[h]))|simp(maxSteps:=4000000) (disch:=first|exact ddL|fail) only[go_sem,simprocAttr,Tryz.f213,FXs,hll,hv])
  refine aF (α:=Nat) (fun i=>⟨37,[(24,.int .i64 (i:Int)),(23,.int .i64 (L.length:Int)),(22,.lst 1 (cX L) false),(4,.ptr nl3 0 0),(3,.ptr nl2 0 0),(2,.ptr nl1 0 0)],[]⟩)
   (fun i=>((St.none.set nl1 (.row 126 27 [.int .i64 c.id::.int .i64 (c.ver+1)::.int .u32 (p.lab.toNat:Int)::fc (fH c.f p.f (L.take i))])).set nl2 (.row 57 26 [p.c])).set nl3 (.row 126 27 [ca0.c])) (fun i=>i≤L.length) (fun i=>L.length - i) (.of (.less ?_ (St.le_refl _)) ⟨0,rfl,rfl,Nat.zero_le _⟩) ?_
  ·simp(maxSteps:=4000000) (disch:=first|exact ddL|fail) only[go_sem,simprocAttr,aC,aB]
   all_goals first|rfl|(simp;done)
  ·intro i hi
   have hi:i≤L.length:=hi
   by_cases hlt':i<L.length
   ·obtain⟨k,hk⟩:=bI L hlt'
    have hat:(cX L).getD i []=[.int .i64 (k:Int)]:=by rw[List.getD_eq_getElem?_getD,List.getElem?_map,hk];rfl
    have hk8:=hlt k (cZ hk)
    have hsucc:fH c.f p.f (L.take (i+1))=(fH c.f p.f (L.take i)).set k (p.f.get k):=by rw[aV hk,fH,List.foldl_append];rfl
    obtain⟨g,hg⟩:∃g,fH c.f p.f (L.take i)=g:=⟨_,rfl⟩
    rw[hg] at hsucc ⊢
    repeat' (first|(with_reducible first|(refine wT ?_;(first|((fail_if_success (have:=nl1));refine wN fun nl1 hnl=>?_)|((fail_if_success (have:=nl2));refine wN fun nl2 hnl=>?_)|((fail_if_success (have:=nl3));refine wN fun nl3 hnl=>?_)|refine wN fun _ hnl=>?_);revert hnl;(repeat refine wS fun _ _=>?_);intro hnl)|refine wE ?_|(refine wK ?_ ?_<;>intro h)|(refine wB ?_ ?_<;>intro h<;>simp only[h]))|simp(maxSteps:=4000000) (disch:=first|exact ddL|fail) only[go_sem,simprocAttr,FXs,hat,hll])
    all_goals (try (exfalso;omega))
    all_goals
     refine .of (.less ?_ (St.le_refl _)) ⟨i+1,rfl,by rw[hsucc];first|rfl|skip,(by omega:i+1≤L.length),by omega⟩
     simp(maxSteps:=4000000) (disch:=first|exact ddL|fail) only[go_sem,simprocAttr,aC,aB]
     all_goals first|rfl|(simp;done)
   ·have:i=L.length:=by omega
    subst this
    rw[List.take_length]
    repeat' (first|(with_reducible first|(refine wT ?_;(first|((fail_if_success (have:=nl1));refine wN fun nl1 hnl=>?_)|((fail_if_success (have:=nl2));refine wN fun nl2 hnl=>?_)|((fail_if_success (have:=nl3));refine wN fun nl3 hnl=>?_)|refine wN fun _ hnl=>?_);revert hnl;(repeat refine wS fun _ _=>?_);intro hnl)|refine wE ?_|(refine wK ?_ ?_<;>intro h)|(refine wB ?_ ?_<;>intro h<;>simp only[h]))|simp(maxSteps:=4000000) (disch:=first|exact ddL|fail) only[go_sem,simprocAttr,FXs])
    all_goals first|exact⟨_,St.le_refl _,rfl⟩|exact⟨_,St.le_refl _⟩|rfl
 ·skip
  repeat' (first|(with_reducible first|refine up hml ?_|refine up hfl ?_)|(with_reducible first|(refine wT ?_;(first|((fail_if_success (have:=nl1));refine wN fun nl1 hnl=>?_)|((fail_if_success (have:=nl2));refine wN fun nl2 hnl=>?_)|((fail_if_success (have:=nl3));refine wN fun nl3 hnl=>?_)|refine wN fun _ hnl=>?_);revert hnl;(repeat refine wS fun _ _=>?_);intro hnl)|refine wE ?_|(refine wK ?_ ?_<;>intro h)|(refine wB ?_ ?_<;>intro h<;>simp only[h]))|simp(maxSteps:=4000000) (disch:=first|exact ddL|fail) only[go_sem,simprocAttr,Tryz.f213,FXs,hll,hv])
  refine aF (α:=Nat) (fun i=>⟨37,[(24,.int .i64 (i:Int)),(23,.int .i64 (L.length:Int)),(22,.lst 1 (cX L) false),(4,.ptr nl3 0 0),(3,.ptr nl2 0 0),(2,.ptr nl1 0 0)],[]⟩)
   (fun i=>((St.none.set nl1 (.row 126 27 [.int .i64 c.id::.int .i64 c.ver::.int .u32 (c.lab.toNat:Int)::fc (fH c.f p.f (L.take i))])).set nl2 (.row 57 26 [p.c])).set nl3 (.row 126 27 [ca0.c])) (fun i=>i≤L.length) (fun i=>L.length - i) (.of (.less ?_ (St.le_refl _)) ⟨0,rfl,rfl,Nat.zero_le _⟩) ?_
  ·simp(maxSteps:=4000000) (disch:=first|exact ddL|fail) only[go_sem,simprocAttr,aC,aB]
   all_goals first|rfl|(simp;done)
  ·intro i hi
   have hi:i≤L.length:=hi
   by_cases hlt':i<L.length
   ·obtain⟨k,hk⟩:=bI L hlt'
    have hat:(cX L).getD i []=[.int .i64 (k:Int)]:=by rw[List.getD_eq_getElem?_getD,List.getElem?_map,hk];rfl
    have hk8:=hlt k (cZ hk)
    have hsucc:fH c.f p.f (L.take (i+1))=(fH c.f p.f (L.take i)).set k (p.f.get k):=by rw[aV hk,fH,List.foldl_append];rfl
    obtain⟨g,hg⟩:∃g,fH c.f p.f (L.take i)=g:=⟨_,rfl⟩
    rw[hg] at hsucc ⊢
    repeat' (first|(with_reducible first|(refine wT ?_;(first|((fail_if_success (have:=nl1));refine wN fun nl1 hnl=>?_)|((fail_if_success (have:=nl2));refine wN fun nl2 hnl=>?_)|((fail_if_success (have:=nl3));refine wN fun nl3 hnl=>?_)|refine wN fun _ hnl=>?_);revert hnl;(repeat refine wS fun _ _=>?_);intro hnl)|refine wE ?_|(refine wK ?_ ?_<;>intro h)|(refine wB ?_ ?_<;>intro h<;>simp only[h]))|simp(maxSteps:=4000000) (disch:=first|exact ddL|fail) only[go_sem,simprocAttr,FXs,hat,hll])
    all_goals (try (exfalso;omega))
    all_goals
     refine .of (.less ?_ (St.le_refl _)) ⟨i+1,rfl,by rw[hsucc];first|rfl|skip,(by omega:i+1≤L.length),by omega⟩
     simp(maxSteps:=4000000) (disch:=first|exact ddL|fail) only[go_sem,simprocAttr,aC,aB]
     all_goals first|rfl|(simp;done)
   ·have:i=L.length:=by omega
    subst this
    rw[List.take_length]
    repeat' (first|(with_reducible first|(refine wT ?_;(first|((fail_if_success (have:=nl1));refine wN fun nl1 hnl=>?_)|((fail_if_success (have:=nl2));refine wN fun nl2 hnl=>?_)|((fail_if_success (have:=nl3));refine wN fun nl3 hnl=>?_)|refine wN fun _ hnl=>?_);revert hnl;(repeat refine wS fun _ _=>?_);intro hnl)|refine wE ?_|(refine wK ?_ ?_<;>intro h)|(refine wB ?_ ?_<;>intro h<;>simp only[h]))|simp(maxSteps:=4000000) (disch:=first|exact ddL|fail) only[go_sem,simprocAttr,FXs])
    all_goals first|exact⟨_,St.le_refl _,rfl⟩|exact⟨_,St.le_refl _⟩|rfl
 ·skip
  repeat' (first|(with_reducible first|refine up hml ?_|refine up hfl ?_)|(with_reducible first|(refine wT ?_;(first|((fail_if_success (have:=nl1));refine wN fun nl1 hnl=>?_)|((fail_if_success (have:=nl2));refine wN fun nl2 hnl=>?_)|((fail_if_success (have:=nl3));refine wN fun nl3 hnl=>?_)|refine wN fun _ hnl=>?_);revert hnl;(repeat refine wS fun _ _=>?_);intro hnl)|refine wE ?_|(refine wK ?_ ?_<;>intro h)|(refine wB ?_ ?_<;>intro h<;>simp only[h]))|simp(maxSteps:=4000000) (disch:=first|exact ddL|fail) only[go_sem,simprocAttr,Tryz.f213,FXs,hll,hv])
  refine aF (α:=Nat) (fun i=>⟨37,[(24,.int .i64 (i:Int)),(23,.int .i64 (L.length:Int)),(22,.lst 1 (cX L) false),(4,.ptr nl3 0 0),(3,.ptr nl2 0 0),(2,.ptr nl1 0 0)],[]⟩)
   (fun i=>((St.none.set nl1 (.row 126 27 [.int .i64 c.id::.int .i64 c.ver::.int .u32 (p.lab.toNat:Int)::fc (fH c.f p.f (L.take i))])).set nl2 (.row 57 26 [p.c])).set nl3 (.row 126 27 [ca0.c])) (fun i=>i≤L.length) (fun i=>L.length - i) (.of (.less ?_ (St.le_refl _)) ⟨0,rfl,rfl,Nat.zero_le _⟩) ?_
  ·simp(maxSteps:=4000000) (disch:=first|exact ddL|fail) only[go_sem,simprocAttr,aC,aB]
   all_goals first|rfl|(simp;done)
  ·intro i hi
   have hi:i≤L.length:=hi
   by_cases hlt':i<L.length
   ·obtain⟨k,hk⟩:=bI L hlt'
    have hat:(cX L).getD i []=[.int .i64 (k:Int)]:=by rw[List.getD_eq_getElem?_getD,List.getElem?_map,hk];rfl
    have hk8:=hlt k (cZ hk)
    have hsucc:fH c.f p.f (L.take (i+1))=(fH c.f p.f (L.take i)).set k (p.f.get k):=by rw[aV hk,fH,List.foldl_append];rfl
    obtain⟨g,hg⟩:∃g,fH c.f p.f (L.take i)=g:=⟨_,rfl⟩
    rw[hg] at hsucc ⊢
    repeat' (first|(with_reducible first|(refine wT ?_;(first|((fail_if_success (have:=nl1));refine wN fun nl1 hnl=>?_)|((fail_if_success (have:=nl2));refine wN fun nl2 hnl=>?_)|((fail_if_success (have:=nl3));refine wN fun nl3 hnl=>?_)|refine wN fun _ hnl=>?_);revert hnl;(repeat refine wS fun _ _=>?_);intro hnl)|refine wE ?_|(refine wK ?_ ?_<;>intro h)|(refine wB ?_ ?_<;>intro h<;>simp only[h]))|simp(maxSteps:=4000000) (disch:=first|exact ddL|fail) only[go_sem,simprocAttr,FXs,hat,hll])
    all_goals (try (exfalso;omega))
    all_goals
     refine .of (.less ?_ (St.le_refl _)) ⟨i+1,rfl,by rw[hsucc];first|rfl|skip,(by omega:i+1≤L.length),by omega⟩
     simp(maxSteps:=4000000) (disch:=first|exact ddL|fail) only[go_sem,simprocAttr,aC,aB]
     all_goals first|rfl|(simp;done)
   ·have:i=L.length:=by omega
    subst this
    rw[List.take_length]
    repeat' (first|(with_reducible first|(refine wT ?_;(first|((fail_if_success (have:=nl1));refine wN fun nl1 hnl=>?_)|((fail_if_success (have:=nl2));refine wN fun nl2 hnl=>?_)|((fail_if_success (have:=nl3));refine wN fun nl3 hnl=>?_)|refine wN fun _ hnl=>?_);revert hnl;(repeat refine wS fun _ _=>?_);intro hnl)|refine wE ?_|(refine wK ?_ ?_<;>intro h)|(refine wB ?_ ?_<;>intro h<;>simp only[h]))|simp(maxSteps:=4000000) (disch:=first|exact ddL|fail) only[go_sem,simprocAttr,FXs])
    all_goals first|exact⟨_,St.le_refl _,rfl⟩|exact⟨_,St.le_refl _⟩|rfl
end

section
set_option maxRecDepth 100000
set_option maxHeartbeats 8000000
def dF(id:Int)(p:PA):CA:=eY ⟨id,0,0,f80⟩ p
theorem C1(id:Int)(p:PA):aA Tryz.prog 212 [.int .i64 id,.agg p.c] St.none (fun r _=>r=.agg (dF id p).c):=by
 refine(aA.body 9 [.cell 4 126] Tryz.func212 rfl rfl rfl rfl ?_)
 have h:=r0 ⟨id,0,0,f80⟩ p (Int.le_refl 0)
 unfold dF
 obtain⟨m,hm⟩:∃m,eY ⟨id,0,0,f80⟩ p=m:=⟨_,rfl⟩
 rw[hm] at h ⊢
 repeat' (first|(refine aQ h ?_)|(with_reducible first|(refine wN fun _ hnl=>?_;revert hnl;(repeat refine wS fun _ _=>?_);intro hnl)|refine wE ?_|(refine wK ?_ ?_<;>intro h)|(refine wB ?_ ?_<;>intro h<;>simp only[h]))|simp(maxSteps:=4000000) (disch:=first|exact ddL|fail) only[go_sem,simprocAttr,Tryz.f212,FXs])
end

section
set_option maxRecDepth 100000
set_option maxHeartbeats 8000000
theorem IV{nx:Int}{m l:Nat}(hlm:l≠m)(D:MV)(cs:List CA)(p:PA)(hp:cH p=0)(hn:cs.length<48)(hx0:0≤nx)(hx:nx<1073741824)(hnew:nx∉cs.map CA.id) :
  aA Tryz.prog 142 [.ptr l 0 0,.agg p.c] ((St.none.set m (.mp (cEs cs))).set l (shO nx m D)) (fun v σ'=>v=.tup [.agg (dF nx p).c,.int .i64 0]∧σ'=(St.none.set m (.mp (cEs (cs++[dF nx p])))).set l (shO (nx+1) m D)):=by
 refine aA.less (Q':=fun v σ'=>v=.tup [.agg (dF nx p).c,.int .i64 0]∧((St.none.set m (.mp (cEs (cs++[dF nx p])))).set l (shO (nx+1) m D)).le σ') ?_ fun v σ' h=>⟨_,h.2,h.1,rfl⟩
 refine(aA.lL 52 [.cell 4 126,.tmp 5] Tryz.func142 rfl rfl rfl rfl ?_)
 have hcp:=lN p
 rw[hp] at hcp
 have hfr:=C1 nx p
 have hid:(dF nx p).id=nx:=rfl
 have hput:cM .i64 nx (.agg (dF nx p).c) (cEs cs)=cEs (cs++[dF nx p]):=uC (c:=dF nx p) hnew
 have hik:=nL cs
 have hlen:(cEs cs).length=cs.length:=List.length_map _
 have hml:=Ne.symm hlm
 obtain⟨c,hc⟩:∃c,dF nx p=c:=⟨_,rfl⟩
 rw[hc] at hfr hid hput ⊢
 obtain⟨C,c1⟩:∃C:bR,∀ms,C 212 ms=some ⟨[],fun v=>v=.agg c.c,none⟩:=⟨tV 212 (.agg c.c),fun _=>gJ⟩
 refine fC (jR ?_)
 repeat' (first|(with_reducible first|(refine wN fun _ hnl=>?_;revert hnl;(repeat refine wS fun _ _=>?_);intro hnl)|refine wE ?_|(refine wK ?_ ?_<;>intro h)|(refine wB ?_ ?_<;>intro h<;>simp only[h]))|simp(maxSteps:=4000000) (disch:=first|exact ddL|fail) only[go_sem,simprocAttr,FXs])
 refine jW (fC (jR ?_))
 repeat' (first|(with_reducible first|(refine wN fun _ hnl=>?_;revert hnl;(repeat refine wS fun _ _=>?_);intro hnl)|refine wE ?_|(refine wK ?_ ?_<;>intro h)|(refine wB ?_ ?_<;>intro h<;>simp only[h]))|simp(maxSteps:=4000000) (disch:=first|exact ddL|fail) only[go_sem,simprocAttr,FXs])
 refine jW (fC (jR ?_))
 repeat' (first|(refine aQ hcp ?_)|(with_reducible first|(refine wN fun _ hnl=>?_;revert hnl;(repeat refine wS fun _ _=>?_);intro hnl)|refine wE ?_|(refine wK ?_ ?_<;>intro h)|(refine wB ?_ ?_<;>intro h<;>simp only[h]))|simp(maxSteps:=4000000) (disch:=first|exact ddL|fail) only[go_sem,simprocAttr,FXs])
 refine jW (fC (fC (mO [_,_,_,_] _ [_,_,_,_,_,_,_,_] rfl rfl ?_)))
 repeat' (first|(with_reducible first|(refine wN fun _ hnl=>?_;revert hnl;(repeat refine wS fun _ _=>?_);intro hnl)|refine wE ?_|(refine wK ?_ ?_<;>intro h)|(refine wB ?_ ?_<;>intro h<;>simp only[h]))|simp(maxSteps:=4000000) (disch:=first|exact ddL|fail) only[go_sem,simprocAttr,FXs])
 refine jW (Fz (t:=249) (l:=m) (es:=cEs cs) rfl (by rw[N7]) rfl (by simp[St.set, *]) ?_)
 show R _
 repeat' (first|(with_reducible first|(refine wN fun _ hnl=>?_;revert hnl;(repeat refine wS fun _ _=>?_);intro hnl)|refine wE ?_|(refine wK ?_ ?_<;>intro h)|(refine wB ?_ ?_<;>intro h<;>simp only[h]))|simp(maxSteps:=4000000) (disch:=first|exact ddL|fail) only[go_sem,simprocAttr,FXs,hlen])
 all_goals (try (exfalso;omega))
 refine jW (jR ?_)
 repeat' (first|(with_reducible first|(refine wN fun _ hnl=>?_;revert hnl;(repeat refine wS fun _ _=>?_);intro hnl)|refine wE ?_|(refine wK ?_ ?_<;>intro h)|(refine wB ?_ ?_<;>intro h<;>simp only[h]))|simp(maxSteps:=4000000) (disch:=first|exact ddL|fail) only[go_sem,simprocAttr,FXs])
 refine jW (jR ?_)
 repeat' (first|((with_reducible refine aK mixed ?chk C ?_);(case chk=>decide +kernel))|(with_reducible refine aI (c1 _) hfr ?_)|(with_reducible first|(refine wN fun _ hnl=>?_;revert hnl;(repeat refine wS fun _ _=>?_);intro hnl)|refine wE ?_|(refine wK ?_ ?_<;>intro h)|(refine wB ?_ ?_<;>intro h<;>simp only[h]))|simp(maxSteps:=4000000) (disch:=first|exact ddL|fail) only[go_sem,simprocAttr,FXs,hput,hik,hid])
 have hcc:(.int .i64 nx::.int .i64 c.ver::.int .u32 (c.lab.toNat:Int)::fc c.f:List MV)=c.c:=by rw[←hid]
 rw[hcc,hput]
 refine⟨rfl,St.aD (St.aD (St.none_le _) ?_) ?_⟩
 ·simp[St.set, *]
 ·simp[St.set, *]
end

section
set_option maxRecDepth 100000
set_option maxHeartbeats 8000000
def bk1:BK:=⟨0,1,[],[],[]⟩
theorem Bn:aA Tryz.prog 60 [] St.none (fun v σ'=>∃m l q b,kE m l q b∧v=.ptr b 0 0∧σ'=bkS m l q b bk1 []):=by
 refine aA.gh (DX.mono ?_)
 rintro _ _ ⟨m,l,b,hlm,hbm,hbl,rfl,rfl⟩
 have hlb:=Ne.symm hbl
 refine Gh.vW (b:=l) (t:=251) (e:=3) (pre:=[.int .i64 1,.mapv m]) (post:=[]) 197 3 (by simp[St.set,hlb]) fun q hq=>?_
 simp only[aX] at hq
 obtain⟨q1,q2,q3,-⟩:=hq
 have q1':=Ne.symm q1
 have q2':=Ne.symm q2
 have q3':=Ne.symm q3
 refine Gh.vW (b:=b) (t:=140) (e:=3) (pre:=[.int .i64 0,.ptr l 0 0]) (post:=[]) 200 2 (by simp[St.set, *]) fun z hz=>?_
 simp only[aX] at hz
 obtain⟨zq,zl,z1,-,zm,-⟩:=hz
 have zq':=Ne.symm zq
 have zl':=Ne.symm zl
 have z1':=Ne.symm z1
 have zm':=Ne.symm zm
 refine .of (bM.yT z b [.int .i64 0,.ptr l 0 0] [] (aJ _ _ _) (by simp[St.set, *]) z1' (View.vecAll (aJ _ _ _) rfl) rfl (σ1:=bkS m l q b bk1 []) (l1:=[(0,.ptr b 0 0)]) (aJ _ _ _) (fun k o hk=>?_)
  (fun p hp=>by simp only[List.mem_singleton] at hp;subst hp;exact .same _)) ⟨_,rfl,m,l,q,b,⟨hlm,q3,q2,hbm,hbl,q1'⟩,rfl,rfl⟩
 by_cases k1:k=b
 ·subst k1;exact⟨z1',.inl rfl⟩
 ·have hk:shS 1 m l q [] [] [] k=some o:=(aM _ _ _ _ k1).symm.trans hk
  have k2:k≠z:=fun e=>by
   subst e
   simp[St.set,St.none, *] at hk
  refine⟨k2,.inr ?_⟩
  rw[aM _ _ _ _ k2,aM _ _ _ _ k1]
  by_cases k3:k=q
  ·subst k3;simpa[St.set] using hk
  ·by_cases k4:k=l
   ·subst k4;simpa[St.set,k3] using hk
   ·by_cases k5:k=m
    ·subst k5;simpa[St.set,k3,k4,k1,cEs] using hk
    ·simp[St.set,St.none,k3,k4,k5] at hk
end

section
set_option maxRecDepth 100000
set_option maxHeartbeats 8000000
theorem AY{g1:FuncId}{r1:List Nat}{q1:MV→Prop}{x1:List aW × (Nat→MV)}:PlU (.these [g1]) (fnF [(g1,⟨r1,q1,some x1⟩)]):=by
 intro g' ms rd q' x' h
 simp only[fnF] at h
 split at h
 ·rename_i e
  subst e
  exact .inr (List.mem_singleton.2 rfl)
 ·cases h
theorem DH{P:Program}{g:FuncId}{ms:List MV}{σ:St}{p b:Nat}{op ob ob':aW}{r:MV}{k:MV→St→Prop}(hbp:b≠p)(hp:σ p=some op)(hb:σ b=some ob)
 (h:aA P g ms ((St.none.set p op).set b ob) fun v σ'=>v=r∧σ'=St.none.set b ob')(hk:R (bQ r ((σ.del p).set b ob') k)):R (cQ P g ms σ k) :=
 bX h (St.aD (St.aD (St.none_le _) hp) hb) fun v σ' hv _=>by
  obtain⟨rfl,rfl⟩:=hv
  have e:(St.none.set b ob').over (σ.minus ((St.none.set p op).set b ob))=(σ.del p).set b ob':=by
   funext j
   by_cases h1:j=b
   ·subst h1;simp[St.over,St.set]
   ·by_cases h2:j=p
    ·subst h2;simp[St.over,St.set,St.none,St.minus,St.del,h1]
    ·simp[St.over,St.set,St.none,St.minus,St.del,h1,h2]
  rw[e];exact hk
theorem AX{nx sq:Int}{m l b:Nat}(hlm:l≠m)(hbm:b≠m)(hbl:b≠l)(D g:MV)(cs:List CA)(p:PA)(hp:cH p=0)(hn:cs.length<48)(hx0:0≤nx)(hx:nx<1073741824)(hnew:nx∉cs.map CA.id)(h0:0≤sq)(h1:sq≤1099511627776) :
  aA Tryz.prog 69 [.ptr b 0 0,.agg (ED.mk 1 0 0 p).c] (((St.none.set m (.mp (cEs cs))).set l (shO nx m D)).set b (bL sq l g)) (fun v σ'=>v=.tup [.lst 2 (jX sq [nx]) false,.int .i64 0]∧σ'=((St.none.set m (.mp (cEs (cs++[dF nx p])))).set l (shO (nx+1) m D)).set b (bL (sq+1) l g)):=by
 refine aA.less (Q':=fun v σ'=>v=.tup [.lst 2 (jX sq [nx]) false,.int .i64 0]∧(((St.none.set m (.mp (cEs (cs++[dF nx p])))).set l (shO (nx+1) m D)).set b (bL (sq+1) l g)).le σ') (aA.body 26 [.tmp 4,.tmp 5] Tryz.func69 rfl rfl rfl rfl ?_) fun v σ' h=>⟨_,h.2,h.1,rfl⟩
 have hadd:=IV hlm D cs p hp hn hx0 hx hnew
 have hml:=Ne.symm hlm
 have hmb:=Ne.symm hbm
 have hlb:=Ne.symm hbl
 have hst:=fun {k:Nat} (hk:b≠k)=>sA (sq:=sq) l g hk [(dF nx p).id] h0 h1 (by simp)
 simp only[List.map_cons,List.map_nil,List.length_cons,List.length_nil] at hst
 have hid:(dF nx p).id=nx:=rfl
 obtain⟨c,hc⟩:∃c,dF nx p=c:=⟨_,rfl⟩
 rw[hc] at hadd hid ⊢
 simp only[hc] at hst
 obtain⟨K,hK,c1⟩:∃K:bR,PlU (.these [142]) K∧∀ms,K 142 ms=some ⟨[l,m],fun _=>True,some ([shO (nx+1) m D,.mp (cEs (cs++[c]))],fun _=>.tup [.agg c.c,.int .i64 0])⟩ :=
  ⟨fnF [(142,⟨[l,m],fun _=>True,some ([shO (nx+1) m D,.mp (cEs (cs++[c]))],fun _=>.tup [.agg c.c,.int .i64 0])⟩)],AY,fun _=>bO⟩
 have hadd':aA Tryz.prog 142 [.ptr l 0 0,.agg p.c] (St.ofList [l,m] [shO nx m D,.mp (cEs cs)]) (fun v σ'=>v=.tup [.agg c.c,.int .i64 0]∧σ'=((St.ofList [l,m] [shO nx m D,.mp (cEs cs)]).set m (.mp (cEs (cs++[c])))).set l (shO (nx+1) m D)):=hadd.mono (by
  rintro v σ' ⟨h1,rfl⟩
  refine⟨h1,funext fun j=>?_⟩
  by_cases h1:j=l
  ·subst h1;simp[St.set]
  ·by_cases h2:j=m
   ·subst h2;simp[St.set,h1]
   ·simp[St.ofList,St.set,h1,h2])
 repeat' (first|(refine dO mixed [142] (by decide +kernel) K hK ?_)|(refine B3 (os:=[shO nx m D,.mp (cEs cs)]) (c1 _) (by simp[St.set, *]) hadd' ?_)|(with_reducible first|(refine wT ?_;(first|((fail_if_success (have:=nl1));refine wN fun nl1 hnl=>?_)|((fail_if_success (have:=nl2));refine wN fun nl2 hnl=>?_)|((fail_if_success (have:=nl3));refine wN fun nl3 hnl=>?_)|refine wN fun _ hnl=>?_);revert hnl;(repeat refine wS fun _ _=>?_);intro hnl)|refine wE ?_|(refine wK ?_ ?_<;>intro h)|(refine wB ?_ ?_<;>intro h<;>simp only[h]))|simp(maxSteps:=4000000) (disch:=first|exact ddL|fail) only[go_sem,simprocAttr,Tryz.f69,FXs])
 have n1:b≠nl3:=by assumption
 refine DH n1 (aJ _ _ _) (by simp[St.set, *]) (hst n1) ?_
 repeat' (first|(with_reducible first|(refine wT ?_;(first|((fail_if_success (have:=nl1));refine wN fun nl1 hnl=>?_)|((fail_if_success (have:=nl2));refine wN fun nl2 hnl=>?_)|((fail_if_success (have:=nl3));refine wN fun nl3 hnl=>?_)|refine wN fun _ hnl=>?_);revert hnl;(repeat refine wS fun _ _=>?_);intro hnl)|refine wE ?_|(refine wK ?_ ?_<;>intro h)|(refine wB ?_ ?_<;>intro h<;>simp only[h]))|simp(maxSteps:=4000000) (disch:=first|exact ddL|fail) only[go_sem,simprocAttr])
 refine⟨by rw[hid],St.aD (St.aD (St.aD (St.none_le _) ?_) ?_) ?_⟩
 all_goals simp[St.set,St.del, *]
end

section
set_option maxRecDepth 100000
set_option maxHeartbeats 8000000
theorem aA.FQ{P:Program}{g:FuncId}{ms:List MV}{τ τ1:St}{n:Nat}{o:aW}{r:MV}(hn:τ n=none)(h1:τ1 n=none)(h:aA P g ms τ fun v σ'=>v=r∧σ'=τ1):aA P g ms (τ.set n o) fun v σ'=>v=r∧σ'=τ1.set n o :=
 (h.frame (St.b6 (St.le_refl _) hn)).mono (by
  rintro v σ1 ⟨σ',⟨hv,rfl⟩,rfl,-⟩
  refine⟨hv,funext fun j=>?_⟩
  by_cases hj:j=n
  ·subst hj;simp[St.over,St.minus,St.set,hn,h1]
  ·simp only[St.over,St.minus,St.set,if_neg hj]
   cases σ' j with
   | some o=>rfl
   | none=>cases τ j<;>rfl)
theorem IW{nx sq:Int}{m l b:Nat}(hlm:l≠m)(hbm:b≠m)(hbl:b≠l)(D g:MV)(cs:List CA)(p:PA)(hp:cH p=0)(hn:cs.length<48)(hx0:0≤nx)(hx:nx<1073741824)(hnew:nx∉cs.map CA.id)(h0:0≤sq)(h1:sq≤1000000000000) :
  aA Tryz.prog 17 [.ptr b 0 0,.agg (ED.mk 1 0 0 p).c] (((St.none.set m (.mp (cEs cs))).set l (shO nx m D)).set b (bL sq l g)) (fun v σ'=>v=.tup [.lst 2 (jX sq [nx]) false,.int .i64 0]∧σ'=((St.none.set m (.mp (cEs (cs++[dF nx p])))).set l (shO (nx+1) m D)).set b (bL (sq+1) l g)):=by
 refine aA.less (Q':=fun v σ'=>v=.tup [.lst 2 (jX sq [nx]) false,.int .i64 0]∧(((St.none.set m (.mp (cEs (cs++[dF nx p])))).set l (shO (nx+1) m D)).set b (bL (sq+1) l g)).le σ') (aA.body 31 [.tmp 4,.tmp 5] Tryz.func17 rfl rfl rfl rfl ?_) fun v σ' h=>⟨_,h.2,h.1,rfl⟩
 have hck:=p7 (ED.mk 1 0 0 p)
 have he:iZ (ED.mk 1 0 0 p)=0:=by
  unfold iZ
  simp[edG,edI,edP,hp]
 rw[he] at hck
 have hcr:=AX hlm hbm hbl D g cs p hp hn hx0 hx hnew h0 (by omega)
 have hml:=Ne.symm hlm
 have hmb:=Ne.symm hbm
 have hlb:=Ne.symm hbl
 generalize jX sq [nx]=R1 at hcr ⊢
 obtain⟨c,hc⟩:∃c,dF nx p=c:=⟨_,rfl⟩
 rw[hc] at hcr ⊢
 repeat' (first|(refine aQ hck ?_)|(refine dN mixed (fun _ _=>none) [_,_,_,_,_,_,_] [_,_,_,_] rfl (by decide +kernel) ?_)|(with_reducible first|(refine wN fun _ hnl=>?_;revert hnl;(repeat refine wS fun _ _=>?_);intro hnl)|refine wE ?_|(refine wK ?_ ?_<;>intro h)|(refine wB ?_ ?_<;>intro h<;>simp only[h]))|simp(maxSteps:=4000000) (disch:=first|exact ddL|fail) only[go_sem,simprocAttr,Tryz.f17,FXs])
 all_goals (try (exfalso;omega))
 refine nU (aA.FQ (by simp[St.set,St.none, *]) (by simp[St.set,St.none, *]) (aA.FQ (by simp[St.set,St.none, *]) (by simp[St.set,St.none, *]) hcr)) ?_
 repeat' (first|(with_reducible first|(refine wN fun _ hnl=>?_;revert hnl;(repeat refine wS fun _ _=>?_);intro hnl)|refine wE ?_|(refine wK ?_ ?_<;>intro h)|(refine wB ?_ ?_<;>intro h<;>simp only[h]))|simp(maxSteps:=4000000) (disch:=first|exact ddL|fail) only[go_sem,simprocAttr])
 exact St.b6 (St.b6 (St.le_refl _) (by simp[St.set,St.none, *])) (by simp[St.set,St.none, *])
end
end Go.Proofs.YtppdgejjmhdjhaaGreatDoor
