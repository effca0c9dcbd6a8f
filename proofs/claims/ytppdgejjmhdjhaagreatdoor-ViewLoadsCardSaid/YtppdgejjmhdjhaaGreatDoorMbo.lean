/- Parts of the proof, joined; conditions: those that its theorems name. -/
import Derived.Test.YtppdgejjmhdjhaaGreatDoorMbk
import Derived.Test.YtppdgejjmhdjhaaGreatDoorMbm
import Derived.Shelf.SlIterI.Nil
import Derived.Shelf.SortM.Plain
import Derived.Shelf.SortM.SortNone
import Derived.Test.YtppdgejjmhdjhaaGreatDoorRows
set_option linter.unusedVariables false
set_option linter.unusedSimpArgs false
set_option maxHeartbeats 4000000
namespace Go.Proofs.YtppdgejjmhdjhaaGreatDoor
section
def l4(c:Int):Int:=if 65≤c∧c≤90 then c+32 else c
theorem uK{c:Int}(h0:0≤c)(h1:c≤255):0≤l4 c∧l4 c≤255:=by unfold l4;split<;>omega
theorem Jb(c:Int)(h0:0≤c)(h1:c≤255):aA Tryz.prog 304 [.int .u8 c] St.none (fun r _=>r=.int .u8 (l4 c)):=by
 refine(aA.body 12 [.tmp 2] Tryz.func304 rfl rfl rfl rfl ?_)
 by_cases h2:65≤c
 ·by_cases h3:c≤90
  ·rw[show l4 c=c+32 from if_pos ⟨h2,h3⟩]
   repeat' (first|(with_reducible first|(refine wT ?_;refine wN fun _ hnl=>?_;revert hnl;(repeat refine wS fun _ _=>?_);intro hnl)|refine wD (by decide +kernel) ?_|refine wI (fun h=>?_) fun h=>?_|refine wF (fun h=>?_) fun h=>?_|refine wG (fun h=>?_) fun h=>?_|refine wH (fun h=>?_) fun h=>?_|((first|refine aG (fun h=>?_) fun h=>?_|refine aE (fun h=>?_) fun h=>?_)<;>simp only[h]))|simp(maxSteps:=4000000) (disch:=first|exact ddL|fail) only[go_sem,simprocAttr,Tryz.f304])
  ·rw[show l4 c=c from if_neg fun h=>h3 h.2]
   repeat' (first|(with_reducible first|(refine wT ?_;refine wN fun _ hnl=>?_;revert hnl;(repeat refine wS fun _ _=>?_);intro hnl)|refine wD (by decide +kernel) ?_|refine wI (fun h=>?_) fun h=>?_|refine wF (fun h=>?_) fun h=>?_|refine wG (fun h=>?_) fun h=>?_|refine wH (fun h=>?_) fun h=>?_|((first|refine aG (fun h=>?_) fun h=>?_|refine aE (fun h=>?_) fun h=>?_)<;>simp only[h]))|simp(maxSteps:=4000000) (disch:=first|exact ddL|fail) only[go_sem,simprocAttr,Tryz.f304])
 ·rw[show l4 c=c from if_neg fun h=>h2 h.1]
  repeat' (first|(with_reducible first|(refine wT ?_;refine wN fun _ hnl=>?_;revert hnl;(repeat refine wS fun _ _=>?_);intro hnl)|refine wD (by decide +kernel) ?_|refine wI (fun h=>?_) fun h=>?_|refine wF (fun h=>?_) fun h=>?_|refine wG (fun h=>?_) fun h=>?_|refine wH (fun h=>?_) fun h=>?_|((first|refine aG (fun h=>?_) fun h=>?_|refine aE (fun h=>?_) fun h=>?_)<;>simp only[h]))|simp(maxSteps:=4000000) (disch:=first|exact ddL|fail) only[go_sem,simprocAttr,Tryz.f304])
def fch(s:ByteArray)(i:Nat):List (List MV):=[[.int .u8 (l4 ((s.toList.getD i 0).toNat:Int))]]
def pR(s:ByteArray):Nat→ByteArray
 | 0=>⟨#[]⟩
 | i+1=>pR s i++bytesOf (fch s i)
def dY(s:ByteArray):ByteArray:=pR s s.size
theorem pO(x:List MV):(bytesOf [x]).size=1:=rfl
theorem oS(s:ByteArray):∀i,(pR s i).size=i
 | 0=>rfl
 | i+1=>by rw[pR,ByteArray.size_append,oS s i,fch,pO]
set_option maxHeartbeats 1000000 in
theorem vS (s:ByteArray) (h:s.size≤1000000):aA Tryz.prog 277 [.str s] St.none (fun r _=>r=.str (dY s)):=by
 refine(aA.body 20 [.tmp 2] Tryz.func277 rfl rfl rfl rfl ?_)
 repeat' (first|(with_reducible first|(refine wT ?_;refine wN fun _ hnl=>?_;revert hnl;(repeat refine wS fun _ _=>?_);intro hnl)|refine wD (by decide +kernel) ?_|refine wI (fun h=>?_) fun h=>?_|refine wF (fun h=>?_) fun h=>?_|refine wG (fun h=>?_) fun h=>?_|refine wH (fun h=>?_) fun h=>?_|((first|refine aG (fun h=>?_) fun h=>?_|refine aE (fun h=>?_) fun h=>?_)<;>simp only[h]))|simp(maxSteps:=4000000) (disch:=first|exact ddL|fail) only[go_sem,simprocAttr,Tryz.f277])
 refine aF (α:=Nat) (fun i=>⟨20,[(4,.int .i64 (i:Int)),(3,.str (pR s i)),(0,.str s)],[]⟩)
  (fun _=>St.none) (fun i=>i≤s.size) (fun i=>s.size - i) (.of (.less ?_ (St.le_refl _)) ⟨0,rfl,rfl,Nat.zero_le _⟩) ?_
 ·simp(maxSteps:=4000000) (disch:=first|exact ddL|fail) only[go_sem,simprocAttr,aC,aB]
  all_goals repeat' first|rfl|exact .same _|refine⟨?_,?_⟩
 ·intro i hi
  have hi:i≤s.size:=hi
  by_cases hlt:i<s.size
  ·have hsz:=oS s i
   have hc0:0≤((s.toList.getD i 0).toNat:Int):=by omega
   have hc1:((s.toList.getD i 0).toNat:Int)≤255:=by have:=(s.toList.getD i 0).toNat_lt;omega
   have hlo:=Jb _ hc0 hc1
   obtain⟨hr0,hr1⟩:=uK hc0 hc1
   have hf:pR s (i+1)=pR s i++bytesOf (fch s i):=rfl
   have hfc:fch s i=[[.int .u8 (l4 ((s.toList.getD i 0).toNat:Int))]]:=rfl
   have hone:=pO [.int .u8 (l4 ((s.toList.getD i 0).toNat:Int))]
   rw[hfc] at hf
   obtain⟨c,hc⟩:∃c:Int,((s.toList.getD i 0).toNat:Int)=c:=⟨_,rfl⟩
   rw[hc] at hlo hr0 hr1 hf hone hc0 hc1
   repeat' (first|(with_reducible refine aQ hlo ?_)|(with_reducible first|(refine wT ?_;refine wN fun _ hnl=>?_;revert hnl;(repeat refine wS fun _ _=>?_);intro hnl)|refine wD (by decide +kernel) ?_|refine wI (fun h=>?_) fun h=>?_|refine wF (fun h=>?_) fun h=>?_|refine wG (fun h=>?_) fun h=>?_|refine wH (fun h=>?_) fun h=>?_|((first|refine aG (fun h=>?_) fun h=>?_|refine aE (fun h=>?_) fun h=>?_)<;>simp only[h]))|simp(maxSteps:=4000000) (disch:=first|exact ddL|fail) only[go_sem,simprocAttr,hc,hsz,hone,isByte])
   refine .of (.less ?_ (St.none_le _)) ⟨i+1,rfl,rfl,by omega,by omega⟩
   rw[hf]
   simp(maxSteps:=4000000) (disch:=first|exact ddL|fail) only[go_sem,simprocAttr,aC,aB]
   all_goals rfl
  ·have hie:i=s.size:=by omega
   subst hie
   repeat' (first|(with_reducible first|(refine wT ?_;refine wN fun _ hnl=>?_;revert hnl;(repeat refine wS fun _ _=>?_);intro hnl)|refine wD (by decide +kernel) ?_|refine wI (fun h=>?_) fun h=>?_|refine wF (fun h=>?_) fun h=>?_|refine wG (fun h=>?_) fun h=>?_|refine wH (fun h=>?_) fun h=>?_|((first|refine aG (fun h=>?_) fun h=>?_|refine aE (fun h=>?_) fun h=>?_)<;>simp only[h]))|simp(maxSteps:=4000000) (disch:=first|exact ddL|fail) only[go_sem,simprocAttr])
   rfl
def gU(a b:VA):Bool:=decide (a.kd=b.kd)&&(decide (a.kd=1) || decide (a.kd=2))&&decide (lM (cmpL a.key b.key)<0)
set_option maxHeartbeats 1000000 in
theorem sI (a b:VA) (ha:a.s.size≤1000000) (hb:b.s.size≤1000000):aA Tryz.prog 232 [.agg a.c,.agg b.c] St.none (fun r _=>r=.bool (gU a b)):=by
 refine(aA.body 26 [.tmp 4] Tryz.func232 rfl rfl rfl rfl ?_)
 have h1:=v8 a b ha hb
 have hd:gU a b=(decide (a.kd=b.kd)&&(decide (a.kd=1) || decide (a.kd=2))&&decide (lM (cmpL a.key b.key)<0)):=rfl
 generalize lM (cmpL a.key b.key)=o at h1 hd
 generalize gU a b=out at hd ⊢
 by_cases e1:a.kd=b.kd
 ·by_cases e2:a.kd=1
  ·rw[decide_eq_true e1,decide_eq_true e2,Bool.true_or,Bool.true_and,Bool.true_and] at hd
   subst hd
   repeat' (first|(with_reducible first|refine up h1 ?_)|(with_reducible first|(refine wT ?_;refine wN fun _ hnl=>?_;revert hnl;(repeat refine wS fun _ _=>?_);intro hnl)|refine wD (by decide +kernel) ?_|refine wI (fun h=>?_) fun h=>?_|refine wF (fun h=>?_) fun h=>?_|refine wG (fun h=>?_) fun h=>?_|refine wH (fun h=>?_) fun h=>?_|((first|refine aG (fun h=>?_) fun h=>?_|refine aE (fun h=>?_) fun h=>?_)<;>simp only[h]))|simp(maxSteps:=4000000) (disch:=first|exact ddL|fail) only[go_sem,simprocAttr,Tryz.f232])
  ·by_cases e3:a.kd=2
   ·rw[decide_eq_true e1,decide_eq_true e3,Bool.or_true,Bool.true_and,Bool.true_and] at hd
    subst hd
    repeat' (first|(with_reducible first|refine up h1 ?_)|(with_reducible first|(refine wT ?_;refine wN fun _ hnl=>?_;revert hnl;(repeat refine wS fun _ _=>?_);intro hnl)|refine wD (by decide +kernel) ?_|refine wI (fun h=>?_) fun h=>?_|refine wF (fun h=>?_) fun h=>?_|refine wG (fun h=>?_) fun h=>?_|refine wH (fun h=>?_) fun h=>?_|((first|refine aG (fun h=>?_) fun h=>?_|refine aE (fun h=>?_) fun h=>?_)<;>simp only[h]))|simp(maxSteps:=4000000) (disch:=first|exact ddL|fail) only[go_sem,simprocAttr,Tryz.f232])
   ·rw[decide_eq_false e2,decide_eq_false e3,Bool.or_false,Bool.and_false,Bool.false_and] at hd
    subst hd
    repeat' (first|(with_reducible first|refine up h1 ?_)|(with_reducible first|(refine wT ?_;refine wN fun _ hnl=>?_;revert hnl;(repeat refine wS fun _ _=>?_);intro hnl)|refine wD (by decide +kernel) ?_|refine wI (fun h=>?_) fun h=>?_|refine wF (fun h=>?_) fun h=>?_|refine wG (fun h=>?_) fun h=>?_|refine wH (fun h=>?_) fun h=>?_|((first|refine aG (fun h=>?_) fun h=>?_|refine aE (fun h=>?_) fun h=>?_)<;>simp only[h]))|simp(maxSteps:=4000000) (disch:=first|exact ddL|fail) only[go_sem,simprocAttr,Tryz.f232])
 ·rw[decide_eq_false e1,Bool.false_and,Bool.false_and] at hd
  subst hd
  repeat' (first|(with_reducible first|refine up h1 ?_)|(with_reducible first|(refine wT ?_;refine wN fun _ hnl=>?_;revert hnl;(repeat refine wS fun _ _=>?_);intro hnl)|refine wD (by decide +kernel) ?_|refine wI (fun h=>?_) fun h=>?_|refine wF (fun h=>?_) fun h=>?_|refine wG (fun h=>?_) fun h=>?_|refine wH (fun h=>?_) fun h=>?_|((first|refine aG (fun h=>?_) fun h=>?_|refine aE (fun h=>?_) fun h=>?_)<;>simp only[h]))|simp(maxSteps:=4000000) (disch:=first|exact ddL|fail) only[go_sem,simprocAttr,Tryz.f232])
def oJ(A B:ByteArray):Bool:=(List.range (A.size+1 - B.size)).any fun i=>decide (A.extract i (i+B.size)=B)
def iS(a b:VA):Bool:=decide (a.kd=2)&&decide (b.kd=2)&&oJ (dY a.s) (dY b.s)
theorem oR(s:ByteArray):(dY s).size=s.size:=oS s s.size
set_option maxHeartbeats 1000000 in
theorem A7 (a b:VA) (ha:a.s.size≤1000000) (hb:b.s.size≤1000000):aA Tryz.prog 233 [.agg a.c,.agg b.c] St.none (fun r _=>r=.bool (iS a b)):=by
 refine(aA.body 40 [.tmp 4] Tryz.func233 rfl rfl rfl rfl ?_)
 have h1:=vS a.s ha
 have h2:=vS b.s hb
 have hd:iS a b=(decide (a.kd=2)&&decide (b.kd=2)&&oJ (dY a.s) (dY b.s)):=rfl
 have s1:=oR a.s
 have s2:=oR b.s
 generalize iS a b=out at hd ⊢
 by_cases e1:a.kd=2
 ·by_cases e2:b.kd=2
  ·rw[decide_eq_true e1,decide_eq_true e2,Bool.true_and,Bool.true_and] at hd
   obtain⟨C,hC⟩:∃C,C=kn [(277,[.str a.s],⟨[],fun v=>v=.str (dY a.s),none⟩),(277,[.str b.s],⟨[],fun v=>v=.str (dY b.s),none⟩)]:=⟨_,rfl⟩
   have f1:C 277 [.str a.s]=some ⟨[],fun v=>v=.str (dY a.s),none⟩:=by rw[hC];exact rA
   have f2:C 277 [.str b.s]=some ⟨[],fun v=>v=.str (dY b.s),none⟩:=by
    rw[hC]
    refine Gl (fun h=>?_) rA
    have h:=h.2
    simp only[List.cons.injEq,MV.str.injEq,and_true] at h
    rw[h]
   clear hC
   generalize dY a.s=A at h1 hd s1 f1
   generalize dY b.s=B at h2 hd s2 f2
   subst hd
   repeat' (first|(with_reducible first|(refine wT ?_;refine wN fun _ hnl=>?_;revert hnl;(repeat refine wS fun _ _=>?_);intro hnl)|refine wD (by decide +kernel) ?_|refine wI (fun h=>?_) fun h=>?_|refine wF (fun h=>?_) fun h=>?_|refine wG (fun h=>?_) fun h=>?_|refine wH (fun h=>?_) fun h=>?_|((first|refine aG (fun h=>?_) fun h=>?_|refine aE (fun h=>?_) fun h=>?_)<;>simp only[h]))|simp(maxSteps:=4000000) (disch:=first|exact ddL|fail) only[go_sem,simprocAttr,Tryz.f233])
   refine aK mixed (by decide +kernel) C ?_
   repeat' (first|(with_reducible refine aI f1 h1 ?_)|(with_reducible refine aI f2 h2 ?_)|(with_reducible first|(refine wT ?_;refine wN fun _ hnl=>?_;revert hnl;(repeat refine wS fun _ _=>?_);intro hnl)|refine wD (by decide +kernel) ?_|refine wI (fun h=>?_) fun h=>?_|refine wF (fun h=>?_) fun h=>?_|refine wG (fun h=>?_) fun h=>?_|refine wH (fun h=>?_) fun h=>?_|((first|refine aG (fun h=>?_) fun h=>?_|refine aE (fun h=>?_) fun h=>?_)<;>simp only[h]))|simp(maxSteps:=4000000) (disch:=first|exact ddL|fail) only[go_sem,simprocAttr])
   refine aF (α:=Nat) (fun i=>⟨40,[(7,.int .i64 (i:Int)),(6,.str B),(5,.str A)],[]⟩)
    (fun _=>St.none) (fun i=>i≤A.size+1∧∀j,j<i→j+B.size≤A.size→A.extract j (j+B.size)≠B) (fun i=>A.size+1 - i) (.of (.less ?_ (St.none_le _)) ⟨0,rfl,rfl,Nat.zero_le _,fun j hj=>absurd hj (by omega)⟩) ?_
   ·simp(maxSteps:=4000000) (disch:=first|exact ddL|fail) only[go_sem,simprocAttr,aC,aB]
    all_goals rfl
   ·rintro i ⟨hi,hq⟩
    by_cases hlt:i+B.size≤A.size
    ·have e1:((i:Int)+(B.size:Int)).toNat=i+B.size:=by omega
     have e2:((i:Int)).toNat=i:=by omega
     repeat' (first|(with_reducible first|(refine wT ?_;refine wN fun _ hnl=>?_;revert hnl;(repeat refine wS fun _ _=>?_);intro hnl)|refine wD (by decide +kernel) ?_|refine wI (fun h=>?_) fun h=>?_|refine wF (fun h=>?_) fun h=>?_|refine wG (fun h=>?_) fun h=>?_|refine wH (fun h=>?_) fun h=>?_|((first|refine aG (fun h=>?_) fun h=>?_|refine aE (fun h=>?_) fun h=>?_)<;>simp only[h]))|simp(maxSteps:=4000000) (disch:=first|exact ddL|fail) only[go_sem,simprocAttr,e1,e2])
     ·refine(List.any_eq_true.2 ⟨i,List.mem_range.2 (by omega),?_⟩).symm
      exact decide_eq_true h
     ·refine .of (.less ?_ (St.none_le _)) ⟨i+1,rfl,rfl,⟨by omega,fun j hj hjl=>?_⟩,by omega⟩
      ·simp(maxSteps:=4000000) (disch:=first|exact ddL|fail) only[go_sem,simprocAttr,aC,aB]
       all_goals rfl
      ·by_cases hji:j=i
       ·subst hji;exact h
       ·exact hq j (by omega) hjl
    ·have hF:oJ A B=false:=by
      rw[oJ,List.any_eq_false]
      intro j hj
      rw[List.mem_range] at hj
      have:=hq j (by omega) (by omega)
      simpa using this
     rw[hF]
     repeat' (first|(with_reducible first|(refine wT ?_;refine wN fun _ hnl=>?_;revert hnl;(repeat refine wS fun _ _=>?_);intro hnl)|refine wD (by decide +kernel) ?_|refine wI (fun h=>?_) fun h=>?_|refine wF (fun h=>?_) fun h=>?_|refine wG (fun h=>?_) fun h=>?_|refine wH (fun h=>?_) fun h=>?_|((first|refine aG (fun h=>?_) fun h=>?_|refine aE (fun h=>?_) fun h=>?_)<;>simp only[h]))|simp(maxSteps:=4000000) (disch:=first|exact ddL|fail) only[go_sem,simprocAttr])
  ·rw[decide_eq_false e2,Bool.and_false,Bool.false_and] at hd
   subst hd
   repeat' (first|(with_reducible first|(refine wT ?_;refine wN fun _ hnl=>?_;revert hnl;(repeat refine wS fun _ _=>?_);intro hnl)|refine wD (by decide +kernel) ?_|refine wI (fun h=>?_) fun h=>?_|refine wF (fun h=>?_) fun h=>?_|refine wG (fun h=>?_) fun h=>?_|refine wH (fun h=>?_) fun h=>?_|((first|refine aG (fun h=>?_) fun h=>?_|refine aE (fun h=>?_) fun h=>?_)<;>simp only[h]))|simp(maxSteps:=4000000) (disch:=first|exact ddL|fail) only[go_sem,simprocAttr,Tryz.f233])
 ·rw[decide_eq_false e1,Bool.false_and,Bool.false_and] at hd
  subst hd
  repeat' (first|(with_reducible first|(refine wT ?_;refine wN fun _ hnl=>?_;revert hnl;(repeat refine wS fun _ _=>?_);intro hnl)|refine wD (by decide +kernel) ?_|refine wI (fun h=>?_) fun h=>?_|refine wF (fun h=>?_) fun h=>?_|refine wG (fun h=>?_) fun h=>?_|refine wH (fun h=>?_) fun h=>?_|((first|refine aG (fun h=>?_) fun h=>?_|refine aE (fun h=>?_) fun h=>?_)<;>simp only[h]))|simp(maxSteps:=4000000) (disch:=first|exact ddL|fail) only[go_sem,simprocAttr,Tryz.f233])
end

section
set_option maxRecDepth 100000
set_option maxHeartbeats 4000000
theorem Mj(s n:Nat):(s &&& 2 ^ n=0)=(s / 2 ^ n % 2=0):=by
 apply propext
 have h:s &&& 2 ^ n=2 ^ n * (s / 2 ^ n % 2):=by
  refine Nat.eq_of_testBit_eq fun i=>?_
  rw[Nat.testBit_and,Nat.testBit_two_pow]
  by_cases hi:n=i
  ·subst hi
   rcases Nat.mod_two_eq_zero_or_one (s / 2 ^ n) with h|h
   ·rw[h,Nat.mul_zero,Nat.zero_testBit]
    have:s.testBit n=false:=by rw[Nat.testBit_eq_decide_div_mod_eq,h];rfl
    rw[this];rfl
   ·rw[h,Nat.mul_one,Nat.testBit_two_pow_self]
    have:s.testBit n=true:=by rw[Nat.testBit_eq_decide_div_mod_eq,h];rfl
    rw[this];simp
  ·rw[decide_eq_false hi,Bool.and_false]
   rcases Nat.mod_two_eq_zero_or_one (s / 2 ^ n) with h|h
   ·rw[h,Nat.mul_zero,Nat.zero_testBit]
   ·rw[h,Nat.mul_one,Nat.testBit_two_pow_of_ne hi]
 rw[h,Nat.mul_eq_zero]
 have:=Nat.pos_of_ne_zero (n:=2 ^ n) (Nat.ne_of_gt (Nat.two_pow_pos n))
 constructor
 ·rintro(h|h)
  ·omega
  ·exact h
 ·exact .inr
theorem vG(s n:Nat)(hs:s<4294967296)(hn:n<32):aA Tryz.prog 253 [.int .u32 (s:Int),.int .i64 (n:Int)] St.none (fun r _=>r=.bool (hasB s n)):=by
 refine(aA.body 10 [.tmp 4] Tryz.func253 rfl rfl rfl rfl ?_)
 have h:=zL n hn
 have ha:=Bk s (2 ^ n) hs (Nat.pow_lt_pow_right (a:=2) (n:=32) (by decide) hn)
 have hb:=Mj s n
 have e:hasB s n=!decide (s &&& 2 ^ n=0):=by
  unfold hasB
  have h2:((n:Int)).toNat=n:=by simp
  have h3:0≤(n:Int)∧(n:Int)≤31:=by omega
  rcases Nat.mod_two_eq_zero_or_one (s / 2 ^ n) with h|h
  ·have h4:s &&& 2 ^ n=0:=by rw[hb];exact h
   simp[h4,h]
  ·have h4:¬(s &&& 2 ^ n=0):=by rw[hb];omega
   simp[h4,h]
   omega
 rw[e]
 generalize s &&& 2 ^ n=x at ha ⊢
 generalize ((2 ^ n:Nat):Int)=y at h ha
 repeat' (first|(with_reducible first|refine up h ?_)|(with_reducible first|(refine wN fun _ hnl=>?_;revert hnl;(repeat refine wS fun _ _=>?_);intro hnl)|refine wE ?_|(refine wK ?_ ?_<;>intro h)|(refine wB ?_ ?_<;>intro h<;>simp only[h]))|simp(maxSteps:=4000000) (disch:=first|exact ddL|fail) only[go_sem,simprocAttr,Tryz.f253,ha])
 all_goals first|(simp;done)|(by_cases hx:x=0<;>simp[hx])
theorem sB(a b:VA):aA Tryz.prog 258 [.agg a.c,.agg b.c] St.none (fun r _=>r=.bool (gU a b)):=by
 refine aA.bZ (aA.body 24 [.tmp 4] Tryz.func258 rfl rfl rfl rfl ?_)
 have h1:=yI a b
 have hd:gU a b=(decide (a.kd=b.kd)&&(decide (a.kd=1) || decide (a.kd=2))&&decide (lM (cmpL a.key b.key)<0)):=rfl
 generalize lM (cmpL a.key b.key)=o at h1 hd
 generalize gU a b=out at hd ⊢
 by_cases e1:a.kd=b.kd
 ·by_cases e2:a.kd=1
  ·rw[decide_eq_true e1,decide_eq_true e2,Bool.true_or,Bool.true_and,Bool.true_and] at hd
   subst hd
   repeat' (first|(with_reducible first|refine up h1 ?_)|(with_reducible first|(refine wN fun _ hnl=>?_;revert hnl;(repeat refine wS fun _ _=>?_);intro hnl)|refine wE ?_|(refine wK ?_ ?_<;>intro h)|(refine wB ?_ ?_<;>intro h<;>simp only[h]))|simp(maxSteps:=4000000) (disch:=first|exact ddL|fail) only[go_sem,simprocAttr,Tryz.f258])
   all_goals first|exact⟨_,St.le_refl _,rfl⟩|exact⟨_,St.le_refl _⟩
  ·by_cases e3:a.kd=2
   ·rw[decide_eq_true e1,decide_eq_true e3,Bool.or_true,Bool.true_and,Bool.true_and] at hd
    subst hd
    repeat' (first|(with_reducible first|refine up h1 ?_)|(with_reducible first|(refine wN fun _ hnl=>?_;revert hnl;(repeat refine wS fun _ _=>?_);intro hnl)|refine wE ?_|(refine wK ?_ ?_<;>intro h)|(refine wB ?_ ?_<;>intro h<;>simp only[h]))|simp(maxSteps:=4000000) (disch:=first|exact ddL|fail) only[go_sem,simprocAttr,Tryz.f258])
    all_goals first|exact⟨_,St.le_refl _,rfl⟩|exact⟨_,St.le_refl _⟩
   ·rw[decide_eq_false e2,decide_eq_false e3,Bool.or_false,Bool.and_false,Bool.false_and] at hd
    subst hd
    repeat' (first|(with_reducible first|refine up h1 ?_)|(with_reducible first|(refine wN fun _ hnl=>?_;revert hnl;(repeat refine wS fun _ _=>?_);intro hnl)|refine wE ?_|(refine wK ?_ ?_<;>intro h)|(refine wB ?_ ?_<;>intro h<;>simp only[h]))|simp(maxSteps:=4000000) (disch:=first|exact ddL|fail) only[go_sem,simprocAttr,Tryz.f258])
    all_goals first|exact⟨_,St.le_refl _,rfl⟩|exact⟨_,St.le_refl _⟩
 ·rw[decide_eq_false e1,Bool.false_and,Bool.false_and] at hd
  subst hd
  repeat' (first|(with_reducible first|refine up h1 ?_)|(with_reducible first|(refine wN fun _ hnl=>?_;revert hnl;(repeat refine wS fun _ _=>?_);intro hnl)|refine wE ?_|(refine wK ?_ ?_<;>intro h)|(refine wB ?_ ?_<;>intro h<;>simp only[h]))|simp(maxSteps:=4000000) (disch:=first|exact ddL|fail) only[go_sem,simprocAttr,Tryz.f258])
  all_goals first|exact⟨_,St.le_refl _,rfl⟩|exact⟨_,St.le_refl _⟩
def lT(s:ByteArray)(i:Nat):List (List MV):=(s.toList.take i).map (fun c=>[.int .u8 (l4 (c.toNat:Int))])++(s.toList.drop i).map (fun c=>[.int .u8 (c.toNat:Int)])
theorem rP(s:ByteArray):s.toList.length=s.size:=by
 rw[ByteArray.toList_eq,Array.length_toList]
 rfl
theorem Lv(s:ByteArray){i:Nat}(h:i≤s.size):(lT s i).length=s.size:=by
 have:=rP s
 simp[lT]
 omega
theorem NG{s:ByteArray}{i:Nat}(h:i<s.size):(lT s i).getD i []=[.int .u8 ((s.toList.getD i 0).toNat:Int)]:=by
 have hl:i<s.toList.length:=by rw[rP];exact h
 unfold lT
 rw[List.getD_eq_getElem?_getD,List.getElem?_append_right (by simp;omega)]
 simp[Nat.min_eq_left (Nat.le_of_lt hl),List.getElem?_eq_getElem hl,List.getD_eq_getElem?_getD]
theorem Lw{s:ByteArray}{i:Nat}(h:i<s.size):(lT s i).set i [.int .u8 (l4 ((s.toList.getD i 0).toNat:Int))]=lT s (i+1):=by
 have hl:i<s.toList.length:=by rw[rP];exact h
 have e1:s.toList.drop i=s.toList[i]::s.toList.drop (i+1):=List.drop_eq_getElem_cons hl
 have e2:s.toList.take (i+1)=s.toList.take i++[s.toList[i]]:=List.take_succ_eq_append_getElem hl
 unfold lT
 rw[e1,e2,bG 0 hl,List.set_append_right _ _ (by rw[List.length_map,List.length_take];omega)]
 rw[List.map_cons,List.length_map,List.length_take,Nat.min_eq_left (Nat.le_of_lt hl),Nat.sub_self,List.set_cons_zero,List.map_append,List.map_cons,List.map_nil,List.append_assoc]
 rfl
theorem LH{l:List (List MV)}{i:Nat}(h:i<l.length){x:List MV}(hx:l.getD i []=x):l.set i x=l:=by
 subst hx
 rw[List.getD_eq_getElem?_getD,List.getElem?_eq_getElem h]
 exact List.set_getElem_self h
theorem yS(s:ByteArray):∀i,i≤s.size→pR s i=bytesOf ((s.toList.take i).map (fun c=>[.int .u8 (l4 (c.toNat:Int))]))
 | 0,_=>rfl
 | i+1,h=>by
  have hl:i<s.toList.length:=by rw[rP];omega
  rw[pR,yS s i (by omega),List.take_succ_eq_append_getElem hl,List.map_append,fch,bG 0 hl]
  unfold bytesOf
  exact ByteArray.ext (by rw[ByteArray.data_append];simp)
theorem Hu(s:ByteArray):bytesOf (lT s s.size)=dY s:=by
 rw[dY,yS s s.size (Nat.le_refl _),lT,←rP,List.drop_length,List.map_nil,List.append_nil]
theorem Jd(s:ByteArray):(lT s s.size).all isByte=true:=by
 rw[List.all_eq_true]
 intro x hx
 unfold lT at hx
 rw[←rP,List.drop_length,List.map_nil,List.append_nil] at hx
 obtain⟨b,_,rfl⟩:=List.mem_map.1 hx
 have:=uK (c:=(b.toNat:Int)) (by omega) (by have:=b.toNat_lt;omega)
 simp[isByte,this]
theorem vI(s:ByteArray)(h:s.size≤1000000):aA Tryz.prog 297 [.str s] St.none (fun r _=>r=.str (dY s)):=by
 refine aA.bZ (aA.body 30 [.tmp 2] Tryz.func297 rfl rfl rfl rfl ?_)
 repeat' (first|(with_reducible first|(refine wT ?_;(first|((fail_if_success (have:=nl1));refine wN fun nl1 hnl=>?_)|refine wN fun _ hnl=>?_);revert hnl;(repeat refine wS fun _ _=>?_);intro hnl)|refine wE ?_|(refine wK ?_ ?_<;>intro h)|(refine wB ?_ ?_<;>intro h<;>simp only[h]))|simp(maxSteps:=4000000) (disch:=first|exact ddL|fail) only[go_sem,simprocAttr,Tryz.f297])
 refine aF (α:=Nat) (fun i=>⟨30,[(10,.int .i64 (i:Int)),(9,.int .i64 (s.size:Int)),(8,.vec 1 nl1 0 s.size),(3,.vec 1 nl1 0 s.size)],[]⟩)
  (fun i=>St.none.set nl1 (.row 5 1 (lT s i))) (fun i=>i≤s.size) (fun i=>s.size - i) ?_ ?_
 ·refine .of (.less ?_ (St.aD (St.none_le _) (by simp[St.set,lT]))) ⟨0,rfl,rfl,Nat.zero_le _⟩
  simp(maxSteps:=4000000) (disch:=first|exact ddL|fail) only[go_sem,simprocAttr,aC,aB]
  all_goals first|rfl|(simp;done)
 ·intro i hi
  have hi:i≤s.size:=hi
  have hrl:=Lv s hi
  by_cases hlt:i<s.size
  ·have hat:=NG hlt
   have hset:=Lw hlt
   have hc0:0≤((s.toList.getD i 0).toNat:Int):=by omega
   have hc1:((s.toList.getD i 0).toNat:Int)≤255:=by have:=(s.toList.getD i 0).toNat_lt;omega
   obtain⟨c,hc⟩:∃c:Int,((s.toList.getD i 0).toNat:Int)=c:=⟨_,rfl⟩
   rw[hc] at hc0 hc1 hat hset
   have hsame:l4 c=c→(lT s i)=lT s (i+1):=fun e=>by rw[←hset,e,LH (by rw[hrl];exact hlt) hat]
   by_cases hcc:65≤c∧c≤90
   ·obtain⟨g1,g2⟩:=hcc
    have e:l4 c=c+97 - 65:=by unfold l4;rw[if_pos ⟨g1,g2⟩];omega
    rw[e] at hset
    repeat' (first|(with_reducible first|(refine wT ?_;(first|((fail_if_success (have:=nl1));refine wN fun nl1 hnl=>?_)|refine wN fun _ hnl=>?_);revert hnl;(repeat refine wS fun _ _=>?_);intro hnl)|refine wE ?_|(refine wK ?_ ?_<;>intro h)|(refine wB ?_ ?_<;>intro h<;>simp only[h]))|simp(maxSteps:=4000000) (disch:=first|exact ddL|fail) only[go_sem,simprocAttr,hat,hrl,g1,g2])
    refine .of (.less ?_ (σ1:=St.none.set nl1 (.row 5 1 (lT s (i+1)))) (by rw[hset];exact St.le_refl _)) ⟨i+1,rfl,rfl,by omega,by omega⟩
    simp(maxSteps:=4000000) (disch:=first|exact ddL|fail) only[go_sem,simprocAttr,aC,aB]
    all_goals first|rfl|(simp;done)
   ·have e:l4 c=c:=by unfold l4;rw[if_neg hcc]
    have hs':=hsame e
    repeat' (first|(with_reducible first|(refine wT ?_;(first|((fail_if_success (have:=nl1));refine wN fun nl1 hnl=>?_)|refine wN fun _ hnl=>?_);revert hnl;(repeat refine wS fun _ _=>?_);intro hnl)|refine wE ?_|(refine wK ?_ ?_<;>intro h)|(refine wB ?_ ?_<;>intro h<;>simp only[h]))|simp(maxSteps:=4000000) (disch:=first|exact ddL|fail) only[go_sem,simprocAttr,hat,hrl])
    all_goals first
     | (exfalso;omega)
     | refine .of (.less ?_ (σ1:=St.none.set nl1 (.row 5 1 (lT s (i+1)))) (by rw[hs'];exact St.le_refl _)) ⟨i+1,rfl,rfl,by omega,by omega⟩
    all_goals
     simp(maxSteps:=4000000) (disch:=first|exact ddL|fail) only[go_sem,simprocAttr,aC,aB]
     all_goals first|rfl|(simp;done)
  ·have:i=s.size:=by omega
   subst this
   have hfb:=Jd s
   have hfs:=Hu s
   have htk:(lT s s.size).take s.size=lT s s.size:=List.take_of_length_le (by rw[hrl];exact Nat.le_refl _)
   repeat' (first|(with_reducible first|(refine wT ?_;(first|((fail_if_success (have:=nl1));refine wN fun nl1 hnl=>?_)|refine wN fun _ hnl=>?_);revert hnl;(repeat refine wS fun _ _=>?_);intro hnl)|refine wE ?_|(refine wK ?_ ?_<;>intro h)|(refine wB ?_ ?_<;>intro h<;>simp only[h]))|simp(maxSteps:=4000000) (disch:=first|exact ddL|fail) only[go_sem,simprocAttr,hrl,hfb,hfs,htk])
   all_goals first|exact⟨_,St.le_refl _,rfl⟩|exact⟨_,St.le_refl _⟩
end

section
theorem half(i j:Nat):Int.fdiv ((i:Int)+j) (2 ^ (min 1 64:Nat))=(((i+j) / 2:Nat):Int):=by
 rw[show((2:Int) ^ (min 1 64:Nat))=2 by decide,Int.fdiv_eq_ediv_of_nonneg _ (by omega)]
 omega
end

section
theorem pI{v:VA}(h:eC v=true):v.s.size≤1000000:=by
 unfold eC at h
 split at h
 ·simp only[decide_eq_true_eq] at h
  rw[h];decide
 ·split at h
  ·simp only[decide_eq_true_eq] at h
   rw[h.2.2];decide
  ·split at h
   ·simp only[decide_eq_true_eq] at h
    omega
   ·cases h
theorem zF{x:ND}(h:eG x=true):x.v.s.size≤1000000:=by
 have h0:va0.s.size≤1000000:=by decide
 unfold eG at h
 split at h
 ·simp only[decide_eq_true_eq] at h;rw[h.2];exact h0
 ·split at h
  ·simp only[decide_eq_true_eq] at h;rw[h.2.2];exact h0
  ·split at h
   ·simp only[decide_eq_true_eq] at h;rw[h.2.2];exact h0
   ·split at h
    ·simp only[decide_eq_true_eq] at h;exact pI h.2.2.1
    ·split at h
     ·simp only[decide_eq_true_eq] at h;exact pI h.2.2.1
     ·cases h
end

section
open Go.Shelf
def oC:Go.Shelf.Ren:=⟨fun|7=>201|10=>246|n=>n,fun|23=>249|26=>3|3=>126|28=>169|0=>0|27=>168|33=>235|4=>4|n=>n,fun|n=>n⟩
theorem HM:Go.Proofs.SlLaysZI.n7 Tryz.prog oC:={
  mixed:=by kernel_rfl
  f7:=⟨Tryz.f201.name,by decide,Tryz.func201.trans (congrArg some (by kernel_rfl))⟩
  f10:=⟨Tryz.f246.name,by decide,Tryz.func246.trans (congrArg some (by kernel_rfl))⟩
  t0:=Tryz.underlying0
  a0:=Tryz.isAgg0
  z0:=Tryz.sizeOf0
  v0:=Tryz.zeroValue0
  t4:=Tryz.underlying4
  a4:=Tryz.isAgg4
  z4:=Tryz.sizeOf4
  v4:=Tryz.zeroValue4
  t23:=Tryz.underlying249
  a23:=Tryz.isAgg249
  z23:=Tryz.sizeOf249
  v23:=Tryz.zeroValue249
  t26:=Tryz.underlying3
  a26:=Tryz.isAgg3
  z26:=Tryz.sizeOf3
  v26:=Tryz.zeroValue3
  t27:=Tryz.underlying168
  a27:=Tryz.isAgg168
  z27:=Tryz.sizeOf168
  v27:=Tryz.zeroValue168
  t28:=Tryz.underlying169
  a28:=Tryz.isAgg169
  z28:=Tryz.sizeOf169
  v28:=Tryz.zeroValue169
  t33:=Tryz.underlying235
  a33:=Tryz.isAgg235
  z33:=Tryz.sizeOf235
  v33:=Tryz.zeroValue235 }
def oD:Go.Shelf.Ren:=⟨fun|7=>97|10=>182|n=>n,fun|23=>131|26=>3|3=>3|28=>169|0=>0|27=>168|33=>235|4=>4|n=>n,fun|n=>n⟩
theorem HN:Go.Proofs.SlLaysZI.n7 Tryz.prog oD:={
  mixed:=by kernel_rfl
  f7:=⟨Tryz.f97.name,by decide,Tryz.func97.trans (congrArg some (by kernel_rfl))⟩
  f10:=⟨Tryz.f182.name,by decide,Tryz.func182.trans (congrArg some (by kernel_rfl))⟩
  t0:=Tryz.underlying0
  a0:=Tryz.isAgg0
  z0:=Tryz.sizeOf0
  v0:=Tryz.zeroValue0
  t4:=Tryz.underlying4
  a4:=Tryz.isAgg4
  z4:=Tryz.sizeOf4
  v4:=Tryz.zeroValue4
  t23:=Tryz.underlying131
  a23:=Tryz.isAgg131
  z23:=Tryz.sizeOf131
  v23:=Tryz.zeroValue131
  t26:=Tryz.underlying3
  a26:=Tryz.isAgg3
  z26:=Tryz.sizeOf3
  v26:=Tryz.zeroValue3
  t27:=Tryz.underlying168
  a27:=Tryz.isAgg168
  z27:=Tryz.sizeOf168
  v27:=Tryz.zeroValue168
  t28:=Tryz.underlying169
  a28:=Tryz.isAgg169
  z28:=Tryz.sizeOf169
  v28:=Tryz.zeroValue169
  t33:=Tryz.underlying235
  a33:=Tryz.isAgg235
  z33:=Tryz.sizeOf235
  v33:=Tryz.zeroValue235 }
def fO:Go.Shelf.Ren:=⟨fun|6=>96|8=>180|9=>181|11=>235|13=>237|12=>236|23=>287|24=>288|14=>278|15=>279|16=>280|17=>281|18=>282|19=>283|20=>284|21=>285|22=>286|25=>305|26=>306|27=>307|28=>308|29=>309|30=>299|31=>322|n=>n,fun|26=>3|28=>169|24=>75|0=>0|3=>3|37=>263|48=>23|50=>318|4=>4|40=>312|39=>311|45=>239|5=>5|9=>9|51=>328|55=>332|57=>343|58=>344|33=>235|n=>n,fun|n=>n⟩
theorem rX:Go.Proofs.SlLaysZI.n6 Tryz.prog fO:={
  mixed:=by kernel_rfl
  f6:=⟨Tryz.f96.name,by decide,Tryz.func96.trans (congrArg some (by kernel_rfl))⟩
  f8:=⟨Tryz.f180.name,by decide,Tryz.func180.trans (congrArg some (by kernel_rfl))⟩
  f11:=⟨Tryz.f235.name,by decide,Tryz.func235.trans (congrArg some (by kernel_rfl))⟩
  t0:=Tryz.underlying0
  a0:=Tryz.isAgg0
  z0:=Tryz.sizeOf0
  v0:=Tryz.zeroValue0
  t24:=Tryz.underlying75
  a24:=Tryz.isAgg75
  z24:=Tryz.sizeOf75
  v24:=Tryz.zeroValue75
  t26:=Tryz.underlying3
  a26:=Tryz.isAgg3
  z26:=Tryz.sizeOf3
  v26:=Tryz.zeroValue3
  t28:=Tryz.underlying169
  a28:=Tryz.isAgg169
  z28:=Tryz.sizeOf169
  v28:=Tryz.zeroValue169
  i26:=by kernel_rfl }
def xM:Go.Shelf.Ren:=⟨fun|5=>181|8=>237|7=>236|19=>287|20=>288|10=>278|11=>279|12=>280|13=>281|14=>282|15=>283|16=>284|17=>285|18=>286|30=>305|31=>306|32=>307|33=>308|34=>309|35=>299|40=>322|n=>n,fun|23=>75|25=>3|3=>3|32=>263|22=>75|0=>0|44=>23|46=>318|4=>4|36=>312|35=>311|41=>239|5=>5|9=>9|53=>328|57=>332|63=>343|64=>344|n=>n,fun|n=>n⟩
theorem y6:Go.Proofs.SlLaysM.n5 Tryz.prog xM:={
  mixed:=by kernel_rfl
  f5:=⟨Tryz.f181.name,by decide,Tryz.func181.trans (congrArg some (by kernel_rfl))⟩
  f7:=⟨Tryz.f236.name,by decide,Tryz.func236.trans (congrArg some (by kernel_rfl))⟩
  f8:=Tryz.func237.trans (congrArg some (by kernel_rfl))
  f10:=⟨Tryz.f278.name,by decide,Tryz.func278.trans (congrArg some (by kernel_rfl))⟩
  f11:=⟨Tryz.f279.name,by decide,Tryz.func279.trans (congrArg some (by kernel_rfl))⟩
  f12:=⟨Tryz.f280.name,by decide,Tryz.func280.trans (congrArg some (by kernel_rfl))⟩
  f13:=⟨Tryz.f281.name,by decide,Tryz.func281.trans (congrArg some (by kernel_rfl))⟩
  f14:=⟨Tryz.f282.name,by decide,Tryz.func282.trans (congrArg some (by kernel_rfl))⟩
  f15:=⟨Tryz.f283.name,by decide,Tryz.func283.trans (congrArg some (by kernel_rfl))⟩
  f16:=⟨Tryz.f284.name,by decide,Tryz.func284.trans (congrArg some (by kernel_rfl))⟩
  f17:=⟨Tryz.f285.name,by decide,Tryz.func285.trans (congrArg some (by kernel_rfl))⟩
  f18:=⟨Tryz.f286.name,by decide,Tryz.func286.trans (congrArg some (by kernel_rfl))⟩
  f19:=Tryz.func287.trans (congrArg some (by kernel_rfl))
  f20:=Tryz.func288.trans (congrArg some (by kernel_rfl))
  f30:=⟨Tryz.f305.name,by decide,Tryz.func305.trans (congrArg some (by kernel_rfl))⟩
  f31:=Tryz.func306.trans (congrArg some (by kernel_rfl))
  f32:=Tryz.func307.trans (congrArg some (by kernel_rfl))
  f33:=⟨Tryz.f308.name,by decide,Tryz.func308.trans (congrArg some (by kernel_rfl))⟩
  f34:=⟨Tryz.f309.name,by decide,Tryz.func309.trans (congrArg some (by kernel_rfl))⟩
  f35:=⟨Tryz.f299.name,by decide,Tryz.func299.trans (congrArg some (by kernel_rfl))⟩
  f40:=⟨Tryz.f322.name,by decide,Tryz.func322.trans (congrArg some (by kernel_rfl))⟩
  t0:=Tryz.underlying0
  a0:=Tryz.isAgg0
  z0:=Tryz.sizeOf0
  v0:=Tryz.zeroValue0
  t3:=Tryz.underlying3
  a3:=Tryz.isAgg3
  z3:=Tryz.sizeOf3
  v3:=Tryz.zeroValue3
  t4:=Tryz.underlying4
  a4:=Tryz.isAgg4
  z4:=Tryz.sizeOf4
  v4:=Tryz.zeroValue4
  t5:=Tryz.underlying5
  a5:=Tryz.isAgg5
  z5:=Tryz.sizeOf5
  v5:=Tryz.zeroValue5
  t9:=Tryz.underlying9
  a9:=Tryz.isAgg9
  z9:=Tryz.sizeOf9
  v9:=Tryz.zeroValue9
  t22:=Tryz.underlying75
  a22:=Tryz.isAgg75
  z22:=Tryz.sizeOf75
  v22:=Tryz.zeroValue75
  t23:=Tryz.underlying75
  a23:=Tryz.isAgg75
  z23:=Tryz.sizeOf75
  v23:=Tryz.zeroValue75
  t25:=Tryz.underlying3
  a25:=Tryz.isAgg3
  z25:=Tryz.sizeOf3
  v25:=Tryz.zeroValue3
  t32:=Tryz.underlying263
  a32:=Tryz.isAgg263
  z32:=Tryz.sizeOf263
  v32:=Tryz.zeroValue263
  t35:=Tryz.underlying311
  a35:=Tryz.isAgg311
  z35:=Tryz.sizeOf311
  v35:=Tryz.zeroValue311
  t36:=Tryz.underlying312
  a36:=Tryz.isAgg312
  z36:=Tryz.sizeOf312
  v36:=Tryz.zeroValue312
  t41:=Tryz.underlying239
  a41:=Tryz.isAgg239
  z41:=Tryz.sizeOf239
  v41:=Tryz.zeroValue239
  t44:=Tryz.underlying23
  a44:=Tryz.isAgg23
  z44:=Tryz.sizeOf23
  v44:=Tryz.zeroValue23
  t46:=Tryz.underlying318
  a46:=Tryz.isAgg318
  z46:=Tryz.sizeOf318
  v46:=Tryz.zeroValue318
  t53:=Tryz.underlying328
  a53:=Tryz.isAgg328
  z53:=Tryz.sizeOf328
  v53:=Tryz.zeroValue328
  t57:=Tryz.underlying332
  a57:=Tryz.isAgg332
  z57:=Tryz.sizeOf332
  v57:=Tryz.zeroValue332
  t63:=Tryz.underlying343
  a63:=Tryz.isAgg343
  z63:=Tryz.sizeOf343
  v63:=Tryz.zeroValue343
  t64:=Tryz.underlying344
  a64:=Tryz.isAgg344
  z64:=Tryz.sizeOf344
  v64:=Tryz.zeroValue344 }
end

section
open Go.MapKept Go.RowKit Go.Maps Go.Sort Go.Shelf
open Go.WideElems (Fit rd rg)
def MN:MV→Int
 | .int _ n=>n
 | _=>0
def cY(es:List (MV × MV)):List Int:=es.map fun p=>MN p.1
def mP{H:Type}(_:Value):Option (DataW H × List MemPlace):=some (.lit (.bool true),[])
theorem Ny{H:Type}{P:Program}{Φ:Phi}{w:World}{l:Nat}{es:List (MV × MV)}{k:TypeId}(h:dU Φ w l (.mp es))(hk:P.underlying k=some (.int .i64))
 (he:(es.all fun p=>isK .i64 p.1)=true)(hwf:∀n∈cY es,(Lit.int .i64 n).wf=true)(hl:es.length≤maxLen) :
  ∃(p:Place) (b:Nat) (D0:DataW H),Φ.obj l=some p∧p.blk=some b∧w.ownsMap P k mP b es.length D0∧(intKeys D0).Perm (cY es)∧Maps.size D0=es.length:=by
 obtain⟨p,R,c,clock,hp,hR,hh,hs,hst,hrel⟩:=h.Cb
 have key:∀(i:Nat) (e:MapEntry),c.toList[i]?=some e→Go.WideElems.rd (H:=H) P k mP e=some (Lit.int .i64 ((cY es).getD i 0),.lit (.bool true)):=fun i e hi=>by
  have hlt:i<es.length:=by
   have:=(List.getElem?_eq_some_iff.1 hi).1
   rw[←hs];simpa using this
  obtain⟨e',q1,q2,_⟩:=hrel i es[i] (List.getElem?_eq_getElem hlt)
  rw[hi] at q1;cases q1
  have hik:=List.all_eq_true.1 he es[i] (List.getElem_mem hlt)
  obtain⟨n,hn⟩:=iE hik
  rw[hn] at q2
  have hkn:(cY es).getD i 0=n:=by
   simp[cY,List.getD_eq_getElem?_getD,List.getElem?_eq_getElem hlt,hn,MN]
  have hw:=hwf n (by
   rw[cY,List.mem_map]
   exact⟨es[i],List.getElem_mem hlt,by rw[hn];rfl⟩)
  rw[hkn]
  simp[Go.WideElems.rd,mP,q2.aS,keyOf,mapKey,hk,hw]
 have hF:Fit (H:=H) P k mP c clock:=⟨by rw[hs];exact hl,hst,fun x hx=>by
  obtain⟨i,hi,rfl⟩:=List.mem_iff_getElem.1 hx
  exact⟨_,key i _ (List.getElem?_eq_getElem hi)⟩⟩
 have hmap:(c.toList.map (rg (H:=H) P k mP)).map (fun q=>Go.intOf q.1)=cY es:=by
  refine List.ext_getElem? fun i=>?_
  simp only[List.map_map,List.getElem?_map]
  rcases Nat.lt_or_ge i es.length with hi|hi
  ·have hc:i<c.toList.length:=by simpa[hs] using hi
   rw[List.getElem?_eq_getElem hc]
   have h1:=key i _ (List.getElem?_eq_getElem hc)
   simp only[Option.map_some,Function.comp,Go.WideElems.rg_of h1]
   have h2:i<(cY es).length:=by simpa[cY] using hi
   simp[Go.intOf,List.getD_eq_getElem?_getD,List.getElem?_eq_getElem h2]
  ·rw[List.getElem?_eq_none (by simpa[hs] using hi),List.getElem?_eq_none (by simpa[cY] using hi)]
   rfl
 refine⟨p,R,.map ((c.toList.map (rg P k mP)).foldr DataW.insert []),hp,hR,⟨c,clock,hh,hF,by omega,rfl⟩,?_,?_⟩
 ·show(((c.toList.map (rg P k mP)).foldr DataW.insert []).map fun q=>Go.intOf q.1).Perm _
  rw[←hmap]
  exact(Go.WideShapes.sorted_perm _).map _
 ·show((c.toList.map (rg P k mP)).foldr DataW.insert []).length=_
  rw[length_sorted];simp[hs]
theorem Inv.NH{Φ:Phi}{w w':World}{σ:St}(hi:Inv Φ w σ)(hi':Inv Φ w' σ)(st:Step Φ σ w Φ σ w')(g:Nat)(hg:w.heap.size≤g) :
  Inv (Φ.pF w' (fun k=>k=g)) w' σ∧Step Φ σ w (Φ.pF w' (fun k=>k=g)) σ w':=by
 have hle:=s9 Φ w' (fun k=>k=g)
 refine⟨⟨fun l o h=>(hi'.own l o h).mono hle (fun _ _ _ _=>rfl),hi'.inj,fun a v hv=>?_,fun l o p R a v hl hp hR hv=>?_,hi.fresh.1,fun q i v h=>hle.snap _ _ (hi.fresh.2.1 q i v h),hi.fresh.2.2.mono hle.snap⟩,
  ⟨hle,st.os,st.tape,st.output,st.drawn,st.size,st.block,fun a v hv=>?_,st.locs,st.ownd⟩⟩
 ·rcases eN hv with q|⟨_,q⟩
  ·exact hi'.snap a v q
  ·exact q
 ·rcases eN hv with q|⟨q,_⟩
  ·exact hi'.apart l o p R a v hl hp hR q
  ·intro e
   obtain⟨p',hp',hlt⟩:=(hi.own l o hl).place
   rw[show Φ.obj l=some p from hp] at hp'
   cases hp'
   have:=hlt R hR
   have q:R=g:=by rw[←e];exact q
   omega
 ·rcases eN hv with q|⟨q,_⟩
  ·exact .inl q
  ·have q:a.block=g:=q
   exact .inr (.inl (by omega))
theorem sL{P:Program}{ρ ρk:Ren}(L6:SlLaysZI.n6 P ρ)(L10:SlLaysZI.n10 P ρk)(hs:∀m,AnyZI.SortsIn P ρ Fence.wide m)
 (e9:∀args w,(callFunc (ρ.f 9) args).run P w=.ok (.enter (ρ.f 9) args) w)(eg:∀args w,(callFunc (ρk.f 10) args).run P w=.ok (.enter (ρk.f 10) args) w)(hent:Enters P (ρ.f 6))
 {l l2:Nat}{tm:TypeId}{es:List (MV × MV)}(hne:l≠l2)(he:(es.all fun p=>isK .i64 p.1)=true)(hwf:∀n∈cY es,(Lit.int .i64 n).wf=true)(hl:es.length≤1000000) :
  aA P (ρ.f 6) [.fn (.func (ρk.f 10)) [] [.ptr l 0 0]] ((St.none.set l (.row tm 1 [[.mapv l2]])).set l2 (.mp es)) fun r σ' =>
   (∃ns:List Int,ns.Perm (cY es)∧ns.Pairwise (fun a b=>a≤b)∧r=.lst 1 (ns.map fun n=>[.int .i64 n]) false)∧σ'=(St.none.set l (.row tm 1 [[.mapv l2]])).set l2 (.mp es):=by
 obtain⟨σ0,hσ0⟩:∃σ0:St,(St.none.set l (.row tm 1 [[.mapv l2]])).set l2 (.mp es)=σ0:=⟨_,rfl⟩
 have h2:σ0 l2=some (.mp es):=by rw[←hσ0];exact aJ _ _ _
 have h1:σ0 l=some (.row tm 1 [[.mapv l2]]):=by rw[←hσ0];simp[St.set,hne]
 rw[hσ0]
 refine⟨hent,fun Φ w vs hi hr=>?_⟩
 obtain⟨first,cap,e0,r1,r2⟩:=(hr.2 0 _ rfl).oU
 have hf0:first=#[]:=by have:=r1.1;simp at this;exact this
 subst hf0
 have hcs:cap.size=1:=r2.1
 obtain⟨p,R,hp,hR,hc⟩:=(r2.2 0 _ rfl).gL
 have hbo:p.bo=0:=hi.fresh.1.2 l p hp
 have hcap:cap=#[.pointer (some ⟨R,0,none⟩)]:=by
  refine Array.ext (by simpa using hcs) fun i q1 q2=>?_
  have hi0:i=0:=by omega
  subst hi0
  have:=hc
  rw[hbo] at this
  simp[Array.getD,q1] at this
  exact this
 have hvs:vs=#[.func (.func (ρk.f 10)) #[] #[.pointer (some ⟨R,0,none⟩)]]:=by
  have hz:=hr.1
  simp at hz
  refine Array.ext (by simpa using hz) fun i q1 q2=>?_
  have hi0:i=0:=by omega
  subst hi0
  have:=e0
  rw[hcap] at this
  simp[Array.getD,q1] at this
  exact this
 subst hvs
 -- the map
 obtain⟨p2,b,D0,hp2,hb2,hown,hperm,hsz⟩:=Ny (H:=Unit) (P:=P) (k:=ρk.t 26) (hi.own l2 _ h2) L10.t26 he hwf (Nat.le_trans hl (by decide))
 -- the box
 obtain⟨p',hp',hpe,hlen,hmax,hx,hmatch⟩:=hi.own l _ h1
 rw[hp] at hp'
 cases hp'
 rw[hR] at hmatch
 obtain⟨c,fz,hheap,_,_,hcell⟩:=hmatch
 obtain⟨_,v,hv,hrel⟩:=hcell 0 _ 0 _ rfl rfl
 obtain⟨p3,R3,hp3,hR3,rfl⟩:=hrel.kP
 rw[hp2] at hp3
 cases hp3
 rw[hb2] at hR3
 cases hR3
 have hRlt:R<w.heap.size:=by
  obtain⟨q,_⟩:=Array.getElem?_eq_some_iff.1 hheap;exact q
 have hcl:w.cell? ⟨R,0,none⟩=some (.map (some b)):=by
  simp only[World.cell?,hheap]
  rw[hbo] at hv
  simpa using hv
 have hseq:=AnyZI.keys_gives (H:=Unit) (ρ:=ρk) L10 Fence.wide 2 trivial rfl (by omega) R b es.length D0 w hRlt hcl hown
 have cS:=AnyZI.sorted_in L6 Fence.wide 5 trivial trivial trivial trivial rfl (by omega) (hs _) e9 (ρk.f 10) _ trivial eg _ (Maps.size D0) (by rw[hsz];exact Nat.le_trans hl (by decide)) (by rw[hsz];omega) w hseq
 refine(callsIn_wide.1 cS).mono ?_
 rintro e w' ⟨v,ss,rfl,hS,hrow,hnil,hb⟩
 obtain⟨i2,s2⟩:=hi.grow (w':=w') hb.os hb.tape hb.output (by simp[drw,DR]) hb.size hb.block
 have hpm:(ss.mergeSort (fun x y=>decide (x≤y))).Perm (cY es):=(List.mergeSort_perm ss _).trans (hS.trans hperm)
 have hpw:(ss.mergeSort (fun x y=>decide (x≤y))).Pairwise (fun a b=>a≤b):=(List.pairwise_mergeSort (le:=fun x y:Int=>decide (x≤y)) (fun a b c=>by simp;omega) (fun a b=>by simp;omega) ss).imp (fun h=>by simpa using h)
 generalize hns:ss.mergeSort (fun x y=>decide (x≤y))=ns at *
 have hnl:ns.length=ss.length:=by rw[←hns];exact List.length_mergeSort ss
 rcases hrow.2 with⟨rfl,hz⟩|⟨g,capn,cur,rfl,hbase,hgb,q1,q2,q3,q4⟩
 ·have hn0:ns=[]:=List.eq_nil_of_length_eq_zero (by omega)
  subst hn0
  exact⟨_,_,σ0,Φ,rfl,.lstn 1 false,i2,s2,⟨[],hpm,hpw,rfl⟩,rfl⟩
 ·obtain⟨i3,s3⟩:=hi.NH i2 s2 g hbase
  have h0:0<ss.length:=by
   rcases Nat.eq_zero_or_pos ss.length with h|h
   ·have:=hnil.2 (List.eq_nil_of_length_eq_zero h)
    cases this
   ·exact h
  refine⟨_,.lst 1 (ns.map fun n=>[.int .i64 n]) false,σ0,_,rfl,?_,i3,s3,⟨ns,hpm,hpw,rfl⟩,rfl⟩
  have hat:∀i,i<ns.length→w'.cell? ⟨g,i,none⟩=some (.int .i64 (ns.getD i 0)):=fun i hi'=>by
   have e1:(cur.toList.take (ss.length * 1))[i]?=(ns.map encZ)[i]?:=by rw[q4]
   rw[List.getElem?_take,if_pos (by omega),List.getElem?_map,List.getElem?_eq_getElem hi'] at e1
   simp only[World.cell?,hgb]
   simp at e1
   simp[e1,List.getD_eq_getElem?_getD,List.getElem?_eq_getElem hi',encZ]
  have hsn:∀i,i<ns.length→(Φ.pF w' (fun k=>k=g)).snap ⟨g,i,none⟩=some (.int .i64 (ns.getD i 0)):=fun i hi'=>by
   simp only[Phi.pF]
   split
   ·rename_i u hu
    have:=World.block_lt_of_cell? w _ (hi.snap _ _ hu)
    simp only at this
    omega
   ·simp[hat i hi']
  refine Rel.lst (vs:=fun i _=>.int .i64 (ns.getD i 0)) (by simpa using hnl) h0 q1 q2 (fun h=>by cases h) (fun i x hx=>?_) (fun i x j m hx hm=>?_) (fun i x j m hx hm=>?_)
  all_goals
   rw[List.getElem?_map,Option.map_eq_some_iff] at hx
   obtain⟨n,hn,rfl⟩:=hx
  ·rfl
  ·have hin:=(List.getElem?_eq_some_iff.1 hn).1
   have hj:j=0:=by
    have:=(List.getElem?_eq_some_iff.1 hm).1
    simpa using this
   subst hj
   simp at hm
   subst hm
   exact⟨rfl,by simpa using hsn i hin⟩
  ·have hj:j=0:=by
    have:=(List.getElem?_eq_some_iff.1 hm).1
    simpa using this
   subst hj
   simp at hm
   subst hm
   simp[List.getD_eq_getElem?_getD,hn]
   exact .int _ _
theorem LQ(m:Nat):AnyZI.SortsIn Tryz.prog fO Fence.wide m :=
 ⟨fun blk off cap ss W hH hblk hsz=>callsIn_wide.2 (AnyM.slices_Sort_int y6 blk off cap ss W hH hblk hsz),
  fun p cap W=>callsIn_wide.2 (AnyM.slices_Sort_int_none y6 p cap W)⟩
theorem Bb{l l2:Nat}{es:List (MV × MV)}(hne:l≠l2)(he:(es.all fun p=>isK .i64 p.1)=true)(hwf:∀n∈cY es,(Lit.int .i64 n).wf=true)(hl:es.length≤1000000) :
  aA Tryz.prog 96 [.fn (.func 246) [] [.ptr l 0 0]] ((St.none.set l (.row 249 1 [[.mapv l2]])).set l2 (.mp es)) fun r σ' =>
   (∃ns:List Int,ns.Perm (cY es)∧ns.Pairwise (fun a b=>a≤b)∧r=.lst 1 (ns.map fun n=>[.int .i64 n]) false)∧σ'=(St.none.set l (.row 249 1 [[.mapv l2]])).set l2 (.mp es) :=
 sL (ρ:=fO) (ρk:=oC) rX { HM with } LQ (enters_of Tryz.func181 (by kernel_rfl) rfl) (enters_of Tryz.func246 (by kernel_rfl) rfl) ⟨_,Tryz.func96,rfl,rfl⟩ hne he hwf hl
theorem yH{l l2:Nat}{es:List (MV × MV)}(hne:l≠l2)(he:(es.all fun p=>isK .i64 p.1)=true)(hwf:∀n∈cY es,(Lit.int .i64 n).wf=true)(hl:es.length≤1000000) :
  aA Tryz.prog 96 [.fn (.func 182) [] [.ptr l 0 0]] ((St.none.set l (.row 131 1 [[.mapv l2]])).set l2 (.mp es)) fun r σ' =>
   (∃ns:List Int,ns.Perm (cY es)∧ns.Pairwise (fun a b=>a≤b)∧r=.lst 1 (ns.map fun n=>[.int .i64 n]) false)∧σ'=(St.none.set l (.row 131 1 [[.mapv l2]])).set l2 (.mp es) :=
 sL (ρ:=fO) (ρk:=oD) rX { HN with } LQ (enters_of Tryz.func181 (by kernel_rfl) rfl) (enters_of Tryz.func182 (by kernel_rfl) rfl) ⟨_,Tryz.func96,rfl,rfl⟩ hne he hwf hl
end
end Go.Proofs.YtppdgejjmhdjhaaGreatDoor
