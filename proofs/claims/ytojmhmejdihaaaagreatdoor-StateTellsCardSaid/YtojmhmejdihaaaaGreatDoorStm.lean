/- Parts of the proof, joined; conditions: those that its theorems name. -/
import Derived.Test.YtojmhmejdihaaaaGreatDoorSth
import Derived.Test.YtojmhmejdihaaaaGreatDoorSti
import Derived.Test.YtojmhmejdihaaaaGreatDoorStk
set_option linter.unusedVariables false
set_option linter.unusedSimpArgs false
set_option maxHeartbeats 4000000
namespace Go.Proofs.YtojmhmejdihaaaaGreatDoor
section
theorem oU(a b:List ND)(la:a.length≤1000000)(lb:b.length≤1000000)(ta tb:Bool):aA Tryz.prog 176 [.lst 5 (a.map ND.c) ta,.lst 5 (b.map ND.c) tb] St.none (fun r _=>r=.int .i64 (dK (mH a b))):=by
 refine(aA.body 8 [.tmp 4] Tryz.func176 rfl rfl rfl rfl ?_)
 have h:=Ea 257 a b la lb ta tb (fun x y _ _=>Fh x y)
 repeat' (first|(with_reducible refine bB h ?_)|(with_reducible first|(refine wN fun nl hnl=>?_;revert hnl;(repeat refine wS fun _ _=>?_);intro hnl)|refine wD (by decide +kernel) ?_|refine wI (fun h=>?_) fun h=>?_|refine wF (fun h=>?_) fun h=>?_|refine wG (fun h=>?_) fun h=>?_|refine wH (fun h=>?_) fun h=>?_|((first|refine aG (fun h=>?_) fun h=>?_|refine aE (fun h=>?_) fun h=>?_)<;>simp only[h]))|simp(maxSteps:=4000000) (disch:=first|exact ddL|fail) only[go_sem,simprocAttr,Tryz.f176])
end

section
open Go.Shelf
theorem xR:∀W:World,W.ShapedOpen Tryz.prog→∀g,g∈GI→∃m,W.cell? ⟨g,0,none⟩=some (.int .i64 m):=fun W h g hg=>by
 simp only[GI,List.mem_cons,List.not_mem_nil,or_false] at hg
 subst hg
 exact qF.s1_3 W h
theorem sB(s sub:ByteArray)(hs:s.size≤1000000):aA Tryz.prog 355 [.str s,.str sub] St.none fun r _=>r=.bool (Lib.contains s.data.toList sub.data.toList):=by
 refine⟨⟨_,Tryz.func355,rfl,rfl⟩,fun Φ w vs hi hr=>?_⟩
 obtain⟨m,hm⟩:=hi.fresh.2.2 (iB.g 1) (by simp[GI,iB])
 have e0:=(hr.2 0 _ rfl).eX
 have e1:=(hr.2 1 _ rfl).eX
 have hv:vs=#[.string s,.string sub]:=by
  have h1:=hr.1
  apply Array.ext
  ·simpa using h1
  ·intro i h3 h4
   match i,h3 with
   | 0,h3=>simpa[Array.getD_eq_getD_getElem?,Array.getElem?_eq_getElem h3] using e0
   | 1,h3=>simpa[Array.getD_eq_getD_getElem?,Array.getElem?_eq_getElem h3] using e1
   | i+2,_=>simp at h4;omega
 subst hv
 refine(Any.strings_Contains { qF with } s sub m w (by omega) (hi.snap _ _ hm)).mono ?_
 rintro e' w' ⟨rfl,rfl⟩
 exact⟨_,_,_,Φ,rfl,.bool _,hi,.refl _ _ _,rfl⟩
end

section
def l9(c:Int):Int:=if 65≤c∧c≤90 then c+32 else c
theorem uX{c:Int}(h0:0≤c)(h1:c≤255):0≤l9 c∧l9 c≤255:=by unfold l9;split<;>omega
theorem Jb(c:Int)(h0:0≤c)(h1:c≤255):aA Tryz.prog 358 [.int .u8 c] St.none (fun r _=>r=.int .u8 (l9 c)):=by
 refine(aA.body 12 [.tmp 2] Tryz.func358 rfl rfl rfl rfl ?_)
 by_cases h2:65≤c
 ·by_cases h3:c≤90
  ·rw[show l9 c=c+32 from if_pos ⟨h2,h3⟩]
   repeat' (first|(with_reducible first|(refine wT ?_;refine wN fun _ hnl=>?_;revert hnl;(repeat refine wS fun _ _=>?_);intro hnl)|refine wD (by decide +kernel) ?_|refine wI (fun h=>?_) fun h=>?_|refine wF (fun h=>?_) fun h=>?_|refine wG (fun h=>?_) fun h=>?_|refine wH (fun h=>?_) fun h=>?_|((first|refine aG (fun h=>?_) fun h=>?_|refine aE (fun h=>?_) fun h=>?_)<;>simp only[h]))|simp(maxSteps:=4000000) (disch:=first|exact ddL|fail) only[go_sem,simprocAttr,Tryz.f358])
  ·rw[show l9 c=c from if_neg fun h=>h3 h.2]
   repeat' (first|(with_reducible first|(refine wT ?_;refine wN fun _ hnl=>?_;revert hnl;(repeat refine wS fun _ _=>?_);intro hnl)|refine wD (by decide +kernel) ?_|refine wI (fun h=>?_) fun h=>?_|refine wF (fun h=>?_) fun h=>?_|refine wG (fun h=>?_) fun h=>?_|refine wH (fun h=>?_) fun h=>?_|((first|refine aG (fun h=>?_) fun h=>?_|refine aE (fun h=>?_) fun h=>?_)<;>simp only[h]))|simp(maxSteps:=4000000) (disch:=first|exact ddL|fail) only[go_sem,simprocAttr,Tryz.f358])
 ·rw[show l9 c=c from if_neg fun h=>h2 h.1]
  repeat' (first|(with_reducible first|(refine wT ?_;refine wN fun _ hnl=>?_;revert hnl;(repeat refine wS fun _ _=>?_);intro hnl)|refine wD (by decide +kernel) ?_|refine wI (fun h=>?_) fun h=>?_|refine wF (fun h=>?_) fun h=>?_|refine wG (fun h=>?_) fun h=>?_|refine wH (fun h=>?_) fun h=>?_|((first|refine aG (fun h=>?_) fun h=>?_|refine aE (fun h=>?_) fun h=>?_)<;>simp only[h]))|simp(maxSteps:=4000000) (disch:=first|exact ddL|fail) only[go_sem,simprocAttr,Tryz.f358])
def fch(s:ByteArray)(i:Nat):List (List MV):=[[.int .u8 (l9 ((s.toList.getD i 0).toNat:Int))]]
def qA(s:ByteArray):Nat→ByteArray
 | 0=>⟨#[]⟩
 | i+1=>qA s i++bytesOf (fch s i)
def eC(s:ByteArray):ByteArray:=qA s s.size
theorem pZ(x:List MV):(bytesOf [x]).size=1:=rfl
theorem o6(s:ByteArray):∀i,(qA s i).size=i
 | 0=>rfl
 | i+1=>by rw[qA,ByteArray.size_append,o6 s i,fch,pZ]
set_option maxHeartbeats 1000000 in
theorem vX (s:ByteArray) (h:s.size≤1000000):aA Tryz.prog 329 [.str s] St.none (fun r _=>r=.str (eC s)):=by
 refine(aA.body 20 [.tmp 2] Tryz.func329 rfl rfl rfl rfl ?_)
 repeat' (first|(with_reducible first|(refine wT ?_;refine wN fun _ hnl=>?_;revert hnl;(repeat refine wS fun _ _=>?_);intro hnl)|refine wD (by decide +kernel) ?_|refine wI (fun h=>?_) fun h=>?_|refine wF (fun h=>?_) fun h=>?_|refine wG (fun h=>?_) fun h=>?_|refine wH (fun h=>?_) fun h=>?_|((first|refine aG (fun h=>?_) fun h=>?_|refine aE (fun h=>?_) fun h=>?_)<;>simp only[h]))|simp(maxSteps:=4000000) (disch:=first|exact ddL|fail) only[go_sem,simprocAttr,Tryz.f329])
 refine aD (α:=Nat) (fun i=>⟨20,[(4,.int .i64 (i:Int)),(3,.str (qA s i)),(0,.str s)],[]⟩)
  (fun _=>St.none) (fun i=>i≤s.size) (fun i=>s.size - i) (.of (.less ?_ (St.le_refl _)) ⟨0,rfl,rfl,Nat.zero_le _⟩) ?_
 ·simp(maxSteps:=4000000) (disch:=first|exact ddL|fail) only[go_sem,simprocAttr,aC,aB]
  all_goals repeat' first|rfl|exact .same _|refine⟨?_,?_⟩
 ·intro i hi
  have hi:i≤s.size:=hi
  by_cases hlt:i<s.size
  ·have hsz:=o6 s i
   have hc0:0≤((s.toList.getD i 0).toNat:Int):=by omega
   have hc1:((s.toList.getD i 0).toNat:Int)≤255:=by have:=(s.toList.getD i 0).toNat_lt;omega
   have hlo:=Jb _ hc0 hc1
   obtain⟨hr0,hr1⟩:=uX hc0 hc1
   have hf:qA s (i+1)=qA s i++bytesOf (fch s i):=rfl
   have hfc:fch s i=[[.int .u8 (l9 ((s.toList.getD i 0).toNat:Int))]]:=rfl
   have hone:=pZ [.int .u8 (l9 ((s.toList.getD i 0).toNat:Int))]
   rw[hfc] at hf
   obtain⟨c,hc⟩:∃c:Int,((s.toList.getD i 0).toNat:Int)=c:=⟨_,rfl⟩
   rw[hc] at hlo hr0 hr1 hf hone hc0 hc1
   repeat' (first|(with_reducible refine bB hlo ?_)|(with_reducible first|(refine wT ?_;refine wN fun _ hnl=>?_;revert hnl;(repeat refine wS fun _ _=>?_);intro hnl)|refine wD (by decide +kernel) ?_|refine wI (fun h=>?_) fun h=>?_|refine wF (fun h=>?_) fun h=>?_|refine wG (fun h=>?_) fun h=>?_|refine wH (fun h=>?_) fun h=>?_|((first|refine aG (fun h=>?_) fun h=>?_|refine aE (fun h=>?_) fun h=>?_)<;>simp only[h]))|simp(maxSteps:=4000000) (disch:=first|exact ddL|fail) only[go_sem,simprocAttr,hc,hsz,hone,isByte])
   refine .of (.less ?_ (St.none_le _)) ⟨i+1,rfl,rfl,by omega,by omega⟩
   rw[hf]
   simp(maxSteps:=4000000) (disch:=first|exact ddL|fail) only[go_sem,simprocAttr,aC,aB]
   all_goals rfl
  ·have hie:i=s.size:=by omega
   subst hie
   repeat' (first|(with_reducible first|(refine wT ?_;refine wN fun _ hnl=>?_;revert hnl;(repeat refine wS fun _ _=>?_);intro hnl)|refine wD (by decide +kernel) ?_|refine wI (fun h=>?_) fun h=>?_|refine wF (fun h=>?_) fun h=>?_|refine wG (fun h=>?_) fun h=>?_|refine wH (fun h=>?_) fun h=>?_|((first|refine aG (fun h=>?_) fun h=>?_|refine aE (fun h=>?_) fun h=>?_)<;>simp only[h]))|simp(maxSteps:=4000000) (disch:=first|exact ddL|fail) only[go_sem,simprocAttr])
   rfl
def hY(a b:VA):Bool:=decide (a.kd=b.kd)&&(decide (a.kd=1) || decide (a.kd=2))&&decide (dK (cmpL a.key b.key)<0)
set_option maxHeartbeats 1000000 in
theorem s6 (a b:VA) (ha:a.s.size≤1000000) (hb:b.s.size≤1000000):aA Tryz.prog 277 [.agg a.c,.agg b.c] St.none (fun r _=>r=.bool (hY a b)):=by
 refine(aA.body 26 [.tmp 4] Tryz.func277 rfl rfl rfl rfl ?_)
 have h1:=wO a b ha hb
 have hd:hY a b=(decide (a.kd=b.kd)&&(decide (a.kd=1) || decide (a.kd=2))&&decide (dK (cmpL a.key b.key)<0)):=rfl
 generalize dK (cmpL a.key b.key)=o at h1 hd
 generalize hY a b=out at hd ⊢
 by_cases e1:a.kd=b.kd
 ·by_cases e2:a.kd=1
  ·rw[decide_eq_true e1,decide_eq_true e2,Bool.true_or,Bool.true_and,Bool.true_and] at hd
   subst hd
   repeat' (first|(with_reducible first|refine up h1 ?_)|(with_reducible first|(refine wT ?_;refine wN fun _ hnl=>?_;revert hnl;(repeat refine wS fun _ _=>?_);intro hnl)|refine wD (by decide +kernel) ?_|refine wI (fun h=>?_) fun h=>?_|refine wF (fun h=>?_) fun h=>?_|refine wG (fun h=>?_) fun h=>?_|refine wH (fun h=>?_) fun h=>?_|((first|refine aG (fun h=>?_) fun h=>?_|refine aE (fun h=>?_) fun h=>?_)<;>simp only[h]))|simp(maxSteps:=4000000) (disch:=first|exact ddL|fail) only[go_sem,simprocAttr,Tryz.f277])
  ·by_cases e3:a.kd=2
   ·rw[decide_eq_true e1,decide_eq_true e3,Bool.or_true,Bool.true_and,Bool.true_and] at hd
    subst hd
    repeat' (first|(with_reducible first|refine up h1 ?_)|(with_reducible first|(refine wT ?_;refine wN fun _ hnl=>?_;revert hnl;(repeat refine wS fun _ _=>?_);intro hnl)|refine wD (by decide +kernel) ?_|refine wI (fun h=>?_) fun h=>?_|refine wF (fun h=>?_) fun h=>?_|refine wG (fun h=>?_) fun h=>?_|refine wH (fun h=>?_) fun h=>?_|((first|refine aG (fun h=>?_) fun h=>?_|refine aE (fun h=>?_) fun h=>?_)<;>simp only[h]))|simp(maxSteps:=4000000) (disch:=first|exact ddL|fail) only[go_sem,simprocAttr,Tryz.f277])
   ·rw[decide_eq_false e2,decide_eq_false e3,Bool.or_false,Bool.and_false,Bool.false_and] at hd
    subst hd
    repeat' (first|(with_reducible first|refine up h1 ?_)|(with_reducible first|(refine wT ?_;refine wN fun _ hnl=>?_;revert hnl;(repeat refine wS fun _ _=>?_);intro hnl)|refine wD (by decide +kernel) ?_|refine wI (fun h=>?_) fun h=>?_|refine wF (fun h=>?_) fun h=>?_|refine wG (fun h=>?_) fun h=>?_|refine wH (fun h=>?_) fun h=>?_|((first|refine aG (fun h=>?_) fun h=>?_|refine aE (fun h=>?_) fun h=>?_)<;>simp only[h]))|simp(maxSteps:=4000000) (disch:=first|exact ddL|fail) only[go_sem,simprocAttr,Tryz.f277])
 ·rw[decide_eq_false e1,Bool.false_and,Bool.false_and] at hd
  subst hd
  repeat' (first|(with_reducible first|refine up h1 ?_)|(with_reducible first|(refine wT ?_;refine wN fun _ hnl=>?_;revert hnl;(repeat refine wS fun _ _=>?_);intro hnl)|refine wD (by decide +kernel) ?_|refine wI (fun h=>?_) fun h=>?_|refine wF (fun h=>?_) fun h=>?_|refine wG (fun h=>?_) fun h=>?_|refine wH (fun h=>?_) fun h=>?_|((first|refine aG (fun h=>?_) fun h=>?_|refine aE (fun h=>?_) fun h=>?_)<;>simp only[h]))|simp(maxSteps:=4000000) (disch:=first|exact ddL|fail) only[go_sem,simprocAttr,Tryz.f277])
def oS(A B:ByteArray):Bool:=(List.range (A.size+1 - B.size)).any fun i=>decide (A.extract i (i+B.size)=B)
def jA(a b:VA):Bool:=decide (a.kd=2)&&decide (b.kd=2)&&oS (eC a.s) (eC b.s)
theorem o5(s:ByteArray):(eC s).size=s.size:=o6 s s.size
set_option maxHeartbeats 1000000 in
theorem Bh (a b:VA) (ha:a.s.size≤1000000) (hb:b.s.size≤1000000):aA Tryz.prog 278 [.agg a.c,.agg b.c] St.none (fun r _=>r=.bool (jA a b)):=by
 refine(aA.body 40 [.tmp 4] Tryz.func278 rfl rfl rfl rfl ?_)
 have h1:=vX a.s ha
 have h2:=vX b.s hb
 have hd:jA a b=(decide (a.kd=2)&&decide (b.kd=2)&&oS (eC a.s) (eC b.s)):=rfl
 have s1:=o5 a.s
 have s2:=o5 b.s
 generalize jA a b=out at hd ⊢
 by_cases e1:a.kd=2
 ·by_cases e2:b.kd=2
  ·rw[decide_eq_true e1,decide_eq_true e2,Bool.true_and,Bool.true_and] at hd
   obtain⟨C,hC⟩:∃C,C=kn [(329,[.str a.s],⟨[],fun v=>v=.str (eC a.s),none⟩),(329,[.str b.s],⟨[],fun v=>v=.str (eC b.s),none⟩)]:=⟨_,rfl⟩
   have f1:C 329 [.str a.s]=some ⟨[],fun v=>v=.str (eC a.s),none⟩:=by rw[hC];exact jW
   have f2:C 329 [.str b.s]=some ⟨[],fun v=>v=.str (eC b.s),none⟩:=by
    rw[hC]
    refine fS (fun h=>?_) jW
    have h:=h.2
    simp only[List.cons.injEq,MV.str.injEq,and_true] at h
    rw[h]
   clear hC
   generalize eC a.s=A at h1 hd s1 f1
   generalize eC b.s=B at h2 hd s2 f2
   subst hd
   repeat' (first|(with_reducible first|(refine wT ?_;refine wN fun _ hnl=>?_;revert hnl;(repeat refine wS fun _ _=>?_);intro hnl)|refine wD (by decide +kernel) ?_|refine wI (fun h=>?_) fun h=>?_|refine wF (fun h=>?_) fun h=>?_|refine wG (fun h=>?_) fun h=>?_|refine wH (fun h=>?_) fun h=>?_|((first|refine aG (fun h=>?_) fun h=>?_|refine aE (fun h=>?_) fun h=>?_)<;>simp only[h]))|simp(maxSteps:=4000000) (disch:=first|exact ddL|fail) only[go_sem,simprocAttr,Tryz.f278])
   refine aJ mixed (by decide +kernel) C ?_
   repeat' (first|(with_reducible refine aF f1 h1 ?_)|(with_reducible refine aF f2 h2 ?_)|(with_reducible first|(refine wT ?_;refine wN fun _ hnl=>?_;revert hnl;(repeat refine wS fun _ _=>?_);intro hnl)|refine wD (by decide +kernel) ?_|refine wI (fun h=>?_) fun h=>?_|refine wF (fun h=>?_) fun h=>?_|refine wG (fun h=>?_) fun h=>?_|refine wH (fun h=>?_) fun h=>?_|((first|refine aG (fun h=>?_) fun h=>?_|refine aE (fun h=>?_) fun h=>?_)<;>simp only[h]))|simp(maxSteps:=4000000) (disch:=first|exact ddL|fail) only[go_sem,simprocAttr])
   refine aD (α:=Nat) (fun i=>⟨40,[(7,.int .i64 (i:Int)),(6,.str B),(5,.str A)],[]⟩)
    (fun _=>St.none) (fun i=>i≤A.size+1∧∀j,j<i→j+B.size≤A.size→A.extract j (j+B.size)≠B) (fun i=>A.size+1 - i) (.of (.less ?_ (St.none_le _)) ⟨0,rfl,rfl,Nat.zero_le _,fun j hj=>absurd hj (by omega)⟩) ?_
   ·simp(maxSteps:=4000000) (disch:=first|exact ddL|fail) only[go_sem,simprocAttr,aC,aB]
    all_goals rfl
   ·rintro i ⟨hi,hq⟩
    by_cases hlt:i+B.size≤A.size
    ·have e1:((i:Int)+(B.size:Int)).toNat=i+B.size:=by omega
     have e2:((i:Int)).toNat=i:=by omega
     repeat' (first|(with_reducible first|(refine wT ?_;refine wN fun _ hnl=>?_;revert hnl;(repeat refine wS fun _ _=>?_);intro hnl)|refine wD (by decide +kernel) ?_|refine wI (fun h=>?_) fun h=>?_|refine wF (fun h=>?_) fun h=>?_|refine wG (fun h=>?_) fun h=>?_|refine wH (fun h=>?_) fun h=>?_|((first|refine aG (fun h=>?_) fun h=>?_|refine aE (fun h=>?_) fun h=>?_)<;>simp only[h]))|simp(maxSteps:=4000000) (disch:=first|exact ddL|fail) only[go_sem,simprocAttr,e1,e2])
     ·refine(List.any_eq_true.2 ⟨i,List.mem_range.2 (by omega),?_⟩).symm
      exact decide_eq_true h
     ·refine .of (.less ?_ (St.none_le _)) ⟨i+1,rfl,rfl,⟨by omega,fun j hj hjl=>?_⟩,by omega⟩
      ·simp(maxSteps:=4000000) (disch:=first|exact ddL|fail) only[go_sem,simprocAttr,aC,aB]
       all_goals rfl
      ·by_cases hji:j=i
       ·subst hji;exact h
       ·exact hq j (by omega) hjl
    ·have hF:oS A B=false:=by
      rw[oS,List.any_eq_false]
      intro j hj
      rw[List.mem_range] at hj
      have:=hq j (by omega) (by omega)
      simpa using this
     rw[hF]
     repeat' (first|(with_reducible first|(refine wT ?_;refine wN fun _ hnl=>?_;revert hnl;(repeat refine wS fun _ _=>?_);intro hnl)|refine wD (by decide +kernel) ?_|refine wI (fun h=>?_) fun h=>?_|refine wF (fun h=>?_) fun h=>?_|refine wG (fun h=>?_) fun h=>?_|refine wH (fun h=>?_) fun h=>?_|((first|refine aG (fun h=>?_) fun h=>?_|refine aE (fun h=>?_) fun h=>?_)<;>simp only[h]))|simp(maxSteps:=4000000) (disch:=first|exact ddL|fail) only[go_sem,simprocAttr])
  ·rw[decide_eq_false e2,Bool.and_false,Bool.false_and] at hd
   subst hd
   repeat' (first|(with_reducible first|(refine wT ?_;refine wN fun _ hnl=>?_;revert hnl;(repeat refine wS fun _ _=>?_);intro hnl)|refine wD (by decide +kernel) ?_|refine wI (fun h=>?_) fun h=>?_|refine wF (fun h=>?_) fun h=>?_|refine wG (fun h=>?_) fun h=>?_|refine wH (fun h=>?_) fun h=>?_|((first|refine aG (fun h=>?_) fun h=>?_|refine aE (fun h=>?_) fun h=>?_)<;>simp only[h]))|simp(maxSteps:=4000000) (disch:=first|exact ddL|fail) only[go_sem,simprocAttr,Tryz.f278])
 ·rw[decide_eq_false e1,Bool.false_and,Bool.false_and] at hd
  subst hd
  repeat' (first|(with_reducible first|(refine wT ?_;refine wN fun _ hnl=>?_;revert hnl;(repeat refine wS fun _ _=>?_);intro hnl)|refine wD (by decide +kernel) ?_|refine wI (fun h=>?_) fun h=>?_|refine wF (fun h=>?_) fun h=>?_|refine wG (fun h=>?_) fun h=>?_|refine wH (fun h=>?_) fun h=>?_|((first|refine aG (fun h=>?_) fun h=>?_|refine aE (fun h=>?_) fun h=>?_)<;>simp only[h]))|simp(maxSteps:=4000000) (disch:=first|exact ddL|fail) only[go_sem,simprocAttr,Tryz.f278])
end
end Go.Proofs.YtojmhmejdihaaaaGreatDoor
