/- Parts of the proof; conditions: as its theorems name them. -/
import Derived.Test.YtppdgejjmhdjhaaGreatDoorM9i
import Derived.Test.YtppdgejjmhdjhaaGreatDoorM9k
import Derived.Lib.IndexMore
set_option linter.unusedVariables false
set_option linter.unusedSimpArgs false
set_option maxHeartbeats 8000000
set_option maxRecDepth 100000
namespace Go.Proofs.YtppdgejjmhdjhaaGreatDoor
section
def sD(g:FuncId)(v:MV):cC:=fun g' _=>if g'=g then some ⟨[],fun w=>w=v,none⟩ else none
theorem fB{g:FuncId}{v:MV}{ms:List MV}:sD g v g ms=some ⟨[],fun w=>w=v,none⟩:=by simp[sD]
instance:Inhabited DE:=⟨⟨0,0,0⟩⟩
def tuZ:TU:=⟨0,0,0,0,ca0⟩
theorem VJ{a b:TU}:a=b↔a.sq=b.sq∧a.id=b.id∧a.old=b.old∧a.new=b.new∧a.card=b.card:=by
 obtain⟨a1,a2,a3,a4,a5⟩:=a
 obtain⟨b1,b2,b3,b4,b5⟩:=b
 simp
theorem Qs(d:Nat)(a b:TU):jH Tryz.prog (d+5) 128 (.agg a.c) (.agg b.c)=some (decide (a=b)):=by
 have hp:dH Tryz.prog 128=true:=by decide +kernel
 have hq:=FU d a.card b.card
 rw[kE (by rw[UD]) hp]
 simp only[cE,LK,td3,dY,TK.isAgg,if_true,Bool.false_eq_true,if_false,List.getD_cons_zero,List.getD_cons_succ,List.length_cons,List.length_nil,List.drop_succ_cons,List.drop_zero,List.take_succ_cons,hJ (Nat.le_refl 24),cN,hq,nJ Ug]
 simp[VJ,Bool.decide_and]
theorem T1:dH Tryz.prog 128=true:=by decide +kernel
theorem Ql(a b:TU):cJ Tryz.prog 128 .neq (.agg a.c) (.agg b.c)=some (True,.bool (!decide (a=b))):=Dv (Qs 1 a b) T1
theorem Kd(a b:List Int)(hl:a.length≤1000000)(ta tb:Bool):aA Tryz.prog 100 [.lst 1 (a.map aM) ta,.lst 1 (b.map aM) tb] St.none (fun r _=>r=.bool (decide (a=b))):=by
 refine(mB 26 [.tmp 4] Tryz.func100 ?_)
 by_cases hlen:a.length=b.length
 ·repeat' first|refine wZ1 @Tryz.f100.eq_1 ?_|fail
  refine aE (α:=Nat) (fun i=>⟨26,[(5,.int .i64 (i:Int)),(0,.lst 1 (a.map aM) ta),(1,.lst 1 (b.map aM) tb)],[]⟩) (fun _=>St.none) (fun i=>i≤a.length∧a.take i=b.take i) (fun i=>a.length - i) (.of (.less ?_ (St.le_refl _)) ⟨0,rfl,rfl,Nat.zero_le _,rfl⟩) ?_
  ·exact wW
  ·rintro i ⟨hi,hq⟩
   by_cases hlt:i<a.length
   ·have hsa:=List.take_succ_eq_append_getElem (l:=a) hlt
    have hib:i<b.length:=by omega
    have hsb:=List.take_succ_eq_append_getElem (l:=b) hib
    rw[←bP 0 hlt] at hsa
    rw[←bP 0 hib] at hsb
    have hma:=fR 0 hlt
    have hmb:=fR 0 hib
    obtain⟨x,hx⟩:∃x,a.getD i 0=x:=⟨_,rfl⟩
    obtain⟨y,hy⟩:∃y,b.getD i 0=y:=⟨_,rfl⟩
    rw[hx] at hsa hma
    rw[hy] at hsb hmb

    by_cases he:x=y
    ·have hyy:=he
     repeat' (first|(with_reducible first|(refine wN fun _ hnl=>?_;revert hnl;(repeat refine wS fun _ _=>?_);intro hnl)|refine wE ?_|(refine wK ?_ ?_<;>intro h)|(refine wB ?_ ?_<;>intro h<;>simp only[h]))|simp(maxSteps:=4000000) (disch:=first|decide|assumption|omega|(simp only[wL];omega)) only[go_sem,simprocAttr,bN (0:Int),aM,hx,hy,he])
     refine .of (.less ?_ (St.le_refl _)) ⟨i+1,rfl,rfl,⟨by omega,by rw[hsa,hsb,hq,he]⟩,by omega⟩
     exact wW
    ·have hyy:=he
     have hne:¬a=b:=fun e=>he (by rw[←hx,←hy,e])
     rw[decide_eq_false hne]
     repeat' (first|(with_reducible first|(refine wN fun _ hnl=>?_;revert hnl;(repeat refine wS fun _ _=>?_);intro hnl)|refine wE ?_|(refine wK ?_ ?_<;>intro h)|(refine wB ?_ ?_<;>intro h<;>simp only[h]))|simp(maxSteps:=4000000) (disch:=first|decide|assumption|omega|(simp only[wL];omega)) only[go_sem,simprocAttr,bN (0:Int),aM,hx,hy,he])
     all_goals done
   ·have:i=a.length:=by omega
    subst this
    rw[List.take_length,hlen,List.take_length] at hq
    rw[decide_eq_true hq]
    repeat' first|refine wZ0 ?_|exact wC0|fail
    all_goals done
 ·rw[decide_eq_false fun e=>hlen (by rw[e])]
  repeat' first|refine wZ1 @Tryz.f100.eq_1 ?_|exact wC1 @Tryz.f100.eq_1|fail
  all_goals (first|rfl|(exfalso;omega))
theorem HC(a b:List TU)(hl:a.length≤1000000)(ta tb:Bool):aA Tryz.prog 102 [.lst 31 (a.map TU.c) ta,.lst 31 (b.map TU.c) tb] St.none (fun r _=>r=.bool (decide (a=b))):=by
 refine(mB 26 [.tmp 4] Tryz.func102 ?_)
 by_cases hlen:a.length=b.length
 ·repeat' first|refine wZ1 @Tryz.f102.eq_1 ?_|fail
  refine aE (α:=Nat) (fun i=>⟨26,[(5,.int .i64 (i:Int)),(0,.lst 31 (a.map TU.c) ta),(1,.lst 31 (b.map TU.c) tb)],[]⟩) (fun _=>St.none) (fun i=>i≤a.length∧a.take i=b.take i) (fun i=>a.length - i) (.of (.less ?_ (St.le_refl _)) ⟨0,rfl,rfl,Nat.zero_le _,rfl⟩) ?_
  ·exact wW
  ·rintro i ⟨hi,hq⟩
   by_cases hlt:i<a.length
   ·have hsa:=List.take_succ_eq_append_getElem (l:=a) hlt
    have hib:i<b.length:=by omega
    have hsb:=List.take_succ_eq_append_getElem (l:=b) hib
    rw[←bP tuZ hlt] at hsa
    rw[←bP tuZ hib] at hsb
    have hma:=fR tuZ hlt
    have hmb:=fR tuZ hib
    obtain⟨x,hx⟩:∃x,a.getD i tuZ=x:=⟨_,rfl⟩
    obtain⟨y,hy⟩:∃y,b.getD i tuZ=y:=⟨_,rfl⟩
    rw[hx] at hsa hma
    rw[hy] at hsb hmb
    have hm:=Ql x y
    by_cases he:x=y
    ·rw[decide_eq_true he] at hm
     repeat' (first|(with_reducible first|(refine wN fun _ hnl=>?_;revert hnl;(repeat refine wS fun _ _=>?_);intro hnl)|refine wE ?_|(refine wK ?_ ?_<;>intro h)|(refine wB ?_ ?_<;>intro h<;>simp only[h]))|simp(maxSteps:=4000000) (disch:=first|decide|assumption|omega|(simp only[wL];omega)) only[go_sem,simprocAttr,FXs,bN tuZ,hx,hy,hm])
     refine .of (.less ?_ (St.le_refl _)) ⟨i+1,rfl,rfl,⟨by omega,by rw[hsa,hsb,hq,he]⟩,by omega⟩
     exact wW
    ·rw[decide_eq_false he] at hm
     have hne:¬a=b:=fun e=>he (by rw[←hx,←hy,e])
     rw[decide_eq_false hne]
     repeat' (first|(with_reducible first|(refine wN fun _ hnl=>?_;revert hnl;(repeat refine wS fun _ _=>?_);intro hnl)|refine wE ?_|(refine wK ?_ ?_<;>intro h)|(refine wB ?_ ?_<;>intro h<;>simp only[h]))|simp(maxSteps:=4000000) (disch:=first|decide|assumption|omega|(simp only[wL];omega)) only[go_sem,simprocAttr,FXs,bN tuZ,hx,hy,hm])
     all_goals done
   ·have:i=a.length:=by omega
    subst this
    rw[List.take_length,hlen,List.take_length] at hq
    rw[decide_eq_true hq]
    repeat' first|refine wZ0 ?_|exact wC0|fail
    all_goals done
 ·rw[decide_eq_false fun e=>hlen (by rw[e])]
  repeat' first|refine wZ1 @Tryz.f102.eq_1 ?_|exact wC1 @Tryz.f102.eq_1|fail
  all_goals (first|rfl|(exfalso;omega))
end

section
def o6(c:Int):Int:=if 65≤c∧c≤90 then c+32 else c
theorem Ac{c:Int}(h0:0≤c)(h1:c≤255):0≤o6 c∧o6 c≤255:=by unfold o6;split<;>omega
theorem On(c:Int)(h0:0≤c)(h1:c≤255):aA Tryz.prog 304 [.int .u8 c] St.none (fun r _=>r=.int .u8 (o6 c)):=by
 refine(mB 12 [.tmp 2] Tryz.func304 ?_)
 by_cases h2:65≤c
 ·by_cases h3:c≤90
  ·rw[show o6 c=c+32 from if_pos ⟨h2,h3⟩]
   repeat' first|refine wZ1 @Tryz.f304.eq_1 ?_|exact wC1 @Tryz.f304.eq_1|fail
  ·rw[show o6 c=c from if_neg fun h=>h3 h.2]
   repeat' first|refine wZ1 @Tryz.f304.eq_1 ?_|exact wC1 @Tryz.f304.eq_1|fail
 ·rw[show o6 c=c from if_neg fun h=>h2 h.1]
  repeat' first|refine wZ1 @Tryz.f304.eq_1 ?_|exact wC1 @Tryz.f304.eq_1|fail
def fch(s:ByteArray)(i:Nat):List (List MV):=[[.int .u8 (o6 ((s.toList.getD i 0).toNat:Int))]]
def tT(s:ByteArray):Nat→ByteArray
 | 0=>⟨#[]⟩
 | i+1=>tT s i++bytesOf (fch s i)
def fC(s:ByteArray):ByteArray:=tT s s.size
theorem tJ(x:List MV):(bytesOf [x]).size=1:=rfl
theorem sF(s:ByteArray):∀i,(tT s i).size=i
 | 0=>rfl
 | i+1=>by rw[tT,ByteArray.size_append,sF s i,fch,tJ]
set_option maxHeartbeats 1000000 in
theorem AL (s:ByteArray) (h:s.size≤1000000):aA Tryz.prog 277 [.str s] St.none (fun r _=>r=.str (fC s)):=by
 refine(mB 20 [.tmp 2] Tryz.func277 ?_)
 repeat' first|refine wZ1 @Tryz.f277.eq_1 ?_|fail
 refine aE (α:=Nat) (fun i=>⟨20,[(4,.int .i64 (i:Int)),(3,.str (tT s i)),(0,.str s)],[]⟩)
  (fun _=>St.none) (fun i=>i≤s.size) (fun i=>s.size - i) (.of (.less ?_ (St.le_refl _)) ⟨0,rfl,rfl,Nat.zero_le _⟩) ?_
 ·simp(maxSteps:=4000000) (disch:=first|decide|assumption|omega|(simp only[wL];omega)) only[go_sem,simprocAttr,bC,aS]
  all_goals repeat' first|rfl|exact .same _|refine⟨?_,?_⟩
 ·intro i hi
  have hi:i≤s.size:=hi
  by_cases hlt:i<s.size
  ·have hsz:=sF s i
   have hc0:0≤((s.toList.getD i 0).toNat:Int):=by omega
   have hc1:((s.toList.getD i 0).toNat:Int)≤255:=by have:=(s.toList.getD i 0).toNat_lt;omega
   have hlo:=On _ hc0 hc1
   obtain⟨hr0,hr1⟩:=Ac hc0 hc1
   have hf:tT s (i+1)=tT s i++bytesOf (fch s i):=rfl
   have hfc:fch s i=[[.int .u8 (o6 ((s.toList.getD i 0).toNat:Int))]]:=rfl
   have hone:=tJ [.int .u8 (o6 ((s.toList.getD i 0).toNat:Int))]
   rw[hfc] at hf
   obtain⟨c,hc⟩:∃c:Int,((s.toList.getD i 0).toNat:Int)=c:=⟨_,rfl⟩
   rw[hc] at hlo hr0 hr1 hf hone hc0 hc1
   repeat' first|(with_reducible refine aC hlo ?_)|(refine wO ?_;intros)|simp(maxSteps:=4000000) (disch:=first|exact ddL|fail) only[go_sem,simprocAttr,hc,hsz,hone,isByte]|fail
   refine .of (.less ?_ (St.none_le _)) ⟨i+1,rfl,rfl,by omega,by omega⟩
   rw[hf]
   exact wW
  ·have hie:i=s.size:=by omega
   subst hie
   repeat' first|refine wZ0 ?_|fail
   rfl
def kP(a b:VA):Bool:=decide (a.kd=b.kd)&&(decide (a.kd=1) || decide (a.kd=2))&&decide (oJ (cmpL a.key b.key)<0)
set_option maxHeartbeats 1000000 in
theorem x7 (a b:VA) (ha:a.s.size≤1000000) (hb:b.s.size≤1000000):aA Tryz.prog 232 [.agg a.c,.agg b.c] St.none (fun r _=>r=.bool (kP a b)):=by
 refine(mB 26 [.tmp 4] Tryz.func232 ?_)
 have h1:=AU a b ha hb
 have hd:kP a b=(decide (a.kd=b.kd)&&(decide (a.kd=1) || decide (a.kd=2))&&decide (oJ (cmpL a.key b.key)<0)):=rfl
 generalize oJ (cmpL a.key b.key)=o at h1 hd
 generalize kP a b=out at hd ⊢
 by_cases e1:a.kd=b.kd
 ·by_cases e2:a.kd=1
  ·rw[decide_eq_true e1,decide_eq_true e2,Bool.true_or,Bool.true_and,Bool.true_and] at hd
   subst hd
   repeat' first|(with_reducible first|refine up h1 ?_)|(refine wO ?_;intros)|refine wZ1 @Tryz.f232.eq_1 ?_|exact wC1 @Tryz.f232.eq_1|fail
  ·by_cases e3:a.kd=2
   ·rw[decide_eq_true e1,decide_eq_true e3,Bool.or_true,Bool.true_and,Bool.true_and] at hd
    subst hd
    repeat' first|(with_reducible first|refine up h1 ?_)|(refine wO ?_;intros)|refine wZ1 @Tryz.f232.eq_1 ?_|exact wC1 @Tryz.f232.eq_1|fail
   ·rw[decide_eq_false e2,decide_eq_false e3,Bool.or_false,Bool.and_false,Bool.false_and] at hd
    subst hd
    repeat' first|(with_reducible first|refine up h1 ?_)|(refine wO ?_;intros)|refine wZ1 @Tryz.f232.eq_1 ?_|exact wC1 @Tryz.f232.eq_1|fail
 ·rw[decide_eq_false e1,Bool.false_and,Bool.false_and] at hd
  subst hd
  repeat' first|(with_reducible first|refine up h1 ?_)|(refine wO ?_;intros)|refine wZ1 @Tryz.f232.eq_1 ?_|exact wC1 @Tryz.f232.eq_1|fail
def rY(A B:ByteArray):Bool:=(List.range (A.size+1 - B.size)).any fun i=>decide (A.extract i (i+B.size)=B)
def lQ(a b:VA):Bool:=decide (a.kd=2)&&decide (b.kd=2)&&rY (fC a.s) (fC b.s)
theorem sE(s:ByteArray):(fC s).size=s.size:=sF s s.size
set_option maxHeartbeats 1000000 in
theorem Eo (a b:VA) (ha:a.s.size≤1000000) (hb:b.s.size≤1000000):aA Tryz.prog 233 [.agg a.c,.agg b.c] St.none (fun r _=>r=.bool (lQ a b)):=by
 refine(mB 40 [.tmp 4] Tryz.func233 ?_)
 have h1:=AL a.s ha
 have h2:=AL b.s hb
 have hd:lQ a b=(decide (a.kd=2)&&decide (b.kd=2)&&rY (fC a.s) (fC b.s)):=rfl
 have s1:=sE a.s
 have s2:=sE b.s
 generalize lQ a b=out at hd ⊢
 by_cases e1:a.kd=2
 ·by_cases e2:b.kd=2
  ·rw[decide_eq_true e1,decide_eq_true e2,Bool.true_and,Bool.true_and] at hd
   obtain⟨C,hC⟩:∃C,C=kn [(277,[.str a.s],⟨[],fun v=>v=.str (fC a.s),none⟩),(277,[.str b.s],⟨[],fun v=>v=.str (fC b.s),none⟩)]:=⟨_,rfl⟩
   have f1:C 277 [.str a.s]=some ⟨[],fun v=>v=.str (fC a.s),none⟩:=by rw[hC];exact vR
   have f2:C 277 [.str b.s]=some ⟨[],fun v=>v=.str (fC b.s),none⟩:=by
    rw[hC]
    refine Lc (fun h=>?_) vR
    have h:=h.2
    simp only[List.cons.injEq,MV.str.injEq,and_true] at h
    rw[h]
   clear hC
   generalize fC a.s=A at h1 hd s1 f1
   generalize fC b.s=B at h2 hd s2 f2
   subst hd
   repeat' first|(refine wO ?_;intros)|refine wZ1 @Tryz.f233.eq_1 ?_|fail
   refine aI mixed dK C ?_
   repeat' first|(with_reducible refine aG f1 h1 ?_)|(with_reducible refine aG f2 h2 ?_)|refine wZ0 ?_|fail
   refine aE (α:=Nat) (fun i=>⟨40,[(7,.int .i64 (i:Int)),(6,.str B),(5,.str A)],[]⟩)
    (fun _=>St.none) (fun i=>i≤A.size+1∧∀j,j<i→j+B.size≤A.size→A.extract j (j+B.size)≠B) (fun i=>A.size+1 - i) (.of (.less ?_ (St.none_le _)) ⟨0,rfl,rfl,Nat.zero_le _,fun j hj=>absurd hj oM⟩) ?_
   ·exact wW
   ·rintro i ⟨hi,hq⟩
    by_cases hlt:i+B.size≤A.size
    ·have e1:((i:Int)+(B.size:Int)).toNat=i+B.size:=by omega
     have e2:((i:Int)).toNat=i:=by omega
     repeat' first|(refine wY ?_ ?_<;>intro h)|refine wZ2 @e1 @e2 ?_|fail
     ·refine(List.any_eq_true.2 ⟨i,List.mem_range.2 oM,?_⟩).symm
      exact decide_eq_true h
     ·refine .of (.less ?_ (St.none_le _)) ⟨i+1,rfl,rfl,⟨by omega,fun j hj hjl=>?_⟩,by omega⟩
      ·exact wW
      ·by_cases hji:j=i
       ·subst hji;exact h
       ·exact hq j oM hjl
    ·have hF:rY A B=false:=by
      rw[rY,List.any_eq_false]
      intro j hj
      rw[List.mem_range] at hj
      have:=hq j oM oM
      simpa using this
     rw[hF]
     repeat' first|refine wZ0 ?_|exact wC0|fail
  ·rw[decide_eq_false e2,Bool.and_false,Bool.false_and] at hd
   subst hd
   repeat' first|(refine wO ?_;intros)|refine wZ1 @Tryz.f233.eq_1 ?_|exact wC1 @Tryz.f233.eq_1|fail
 ·rw[decide_eq_false e1,Bool.false_and,Bool.false_and] at hd
  subst hd
  repeat' first|(refine wO ?_;intros)|refine wZ1 @Tryz.f233.eq_1 ?_|exact wC1 @Tryz.f233.eq_1|fail
end

section
theorem SH(s n:Nat):(s &&& 2 ^ n=0)=(s / 2 ^ n % 2=0):=by
 apply propext
 have h:s &&& 2 ^ n=2 ^ n * (s / 2 ^ n % 2):=by
  refine Nat.eq_of_testBit_eq fun i=>?_
  rw[Nat.testBit_and,Nat.testBit_two_pow]
  by_cases hi:n=i
  ·subst hi
   rcases Nat.mod_two_eq_zero_or_one (s / 2 ^ n) with h|h
   ·rw[h,Nat.mul_zero,Nat.zero_testBit]
    have:s.testBit n=false:=by rw[Nat.testBit_eq_decide_div_mod_eq,h];rfl
    rw[this];rfl
   ·rw[h,Nat.mul_one,Nat.testBit_two_pow_self]
    have:s.testBit n=true:=by rw[Nat.testBit_eq_decide_div_mod_eq,h];rfl
    rw[this];simp
  ·rw[decide_eq_false hi,Bool.and_false]
   rcases Nat.mod_two_eq_zero_or_one (s / 2 ^ n) with h|h
   ·rw[h,Nat.mul_zero,Nat.zero_testBit]
   ·rw[h,Nat.mul_one,Nat.testBit_two_pow_of_ne hi]
 rw[h,Nat.mul_eq_zero]
 have:=Nat.pos_of_ne_zero (n:=2 ^ n) (Nat.ne_of_gt (Nat.two_pow_pos n))
 constructor
 ·rintro(h|h)
  ·omega
  ·exact h
 ·exact .inr
theorem Ay(s n:Nat)(hs:s<4294967296)(hn:n<32):aA Tryz.prog 253 [.int .u32 (s:Int),.int .i64 (n:Int)] St.none (fun r _=>r=.bool (hasB s n)):=by
 refine(mB 10 [.tmp 4] Tryz.func253 ?_)
 have h:=CK n hn
 have ha:=EN s (2 ^ n) hs (Nat.pow_lt_pow_right (a:=2) (n:=32) (by decide) hn)
 have hb:=SH s n
 have e:hasB s n=!decide (s &&& 2 ^ n=0):=by
  unfold hasB
  have h2:((n:Int)).toNat=n:=by simp
  have h3:0≤(n:Int)∧(n:Int)≤31:=by omega
  rcases Nat.mod_two_eq_zero_or_one (s / 2 ^ n) with h|h
  ·have h4:s &&& 2 ^ n=0:=by rw[hb];exact h
   simp[h4,h]
  ·have h4:¬(s &&& 2 ^ n=0):=by rw[hb];omega
   simp[h4,h]
   omega
 rw[e]
 generalize s &&& 2 ^ n=x at ha ⊢
 generalize ((2 ^ n:Nat):Int)=y at h ha
 repeat' first|(with_reducible first|refine up h ?_)|refine wZ2 @Tryz.f253.eq_1 @ha ?_|fail
 all_goals first|(simp;done)|(by_cases hx:x=0<;>simp[hx])
theorem xR(a b:VA):aA Tryz.prog 258 [.agg a.c,.agg b.c] St.none (fun r _=>r=.bool (kP a b)):=by
 refine aA.bR (mB 24 [.tmp 4] Tryz.func258 ?_)
 have h1:=BZ a b
 have hd:kP a b=(decide (a.kd=b.kd)&&(decide (a.kd=1) || decide (a.kd=2))&&decide (oJ (cmpL a.key b.key)<0)):=rfl
 generalize oJ (cmpL a.key b.key)=o at h1 hd
 generalize kP a b=out at hd ⊢
 by_cases e1:a.kd=b.kd
 ·by_cases e2:a.kd=1
  ·rw[decide_eq_true e1,decide_eq_true e2,Bool.true_or,Bool.true_and,Bool.true_and] at hd
   subst hd
   repeat' first|(with_reducible first|refine up h1 ?_)|(refine wO ?_;intros)|refine wZ1 @Tryz.f258.eq_1 ?_|fail
   all_goals exact lE
  ·by_cases e3:a.kd=2
   ·rw[decide_eq_true e1,decide_eq_true e3,Bool.or_true,Bool.true_and,Bool.true_and] at hd
    subst hd
    repeat' first|(with_reducible first|refine up h1 ?_)|(refine wO ?_;intros)|refine wZ1 @Tryz.f258.eq_1 ?_|fail
    all_goals exact lE
   ·rw[decide_eq_false e2,decide_eq_false e3,Bool.or_false,Bool.and_false,Bool.false_and] at hd
    subst hd
    repeat' first|(with_reducible first|refine up h1 ?_)|(refine wO ?_;intros)|refine wZ1 @Tryz.f258.eq_1 ?_|fail
    all_goals exact lE
 ·rw[decide_eq_false e1,Bool.false_and,Bool.false_and] at hd
  subst hd
  repeat' first|(with_reducible first|refine up h1 ?_)|(refine wO ?_;intros)|refine wZ1 @Tryz.f258.eq_1 ?_|fail
  all_goals exact lE
def oR(s:ByteArray)(i:Nat):List (List MV):=(s.toList.take i).map (fun c=>[.int .u8 (o6 (c.toNat:Int))])++(s.toList.drop i).map (fun c=>[.int .u8 (c.toNat:Int)])
theorem xA(s:ByteArray):s.toList.length=s.size:=by
 rw[ByteArray.toList_eq,Array.length_toList]
 rfl
theorem RF(s:ByteArray){i:Nat}(h:i≤s.size):(oR s i).length=s.size:=by
 have:=xA s
 simp[oR]
 omega
theorem T6{s:ByteArray}{i:Nat}(h:i<s.size):(oR s i).getD i []=[.int .u8 ((s.toList.getD i 0).toNat:Int)]:=by
 have hl:i<s.toList.length:=by rw[xA];exact h
 unfold oR
 rw[List.getD_eq_getElem?_getD,List.getElem?_append_right (by simp;omega)]
 simp[Nat.min_eq_left (Nat.le_of_lt hl),List.getElem?_eq_getElem hl,List.getD_eq_getElem?_getD]
theorem RG{s:ByteArray}{i:Nat}(h:i<s.size):(oR s i).set i [.int .u8 (o6 ((s.toList.getD i 0).toNat:Int))]=oR s (i+1):=by
 have hl:i<s.toList.length:=by rw[xA];exact h
 have e1:s.toList.drop i=s.toList[i]::s.toList.drop (i+1):=List.drop_eq_getElem_cons hl
 have e2:s.toList.take (i+1)=s.toList.take i++[s.toList[i]]:=List.take_succ_eq_append_getElem hl
 unfold oR
 rw[e1,e2,bP 0 hl,List.set_append_right _ _ (by rw[List.length_map,List.length_take];omega)]
 rw[List.map_cons,List.length_map,List.length_take,Nat.min_eq_left (Nat.le_of_lt hl),Nat.sub_self,List.set_cons_zero,List.map_append,List.map_cons,List.map_nil,List.append_assoc]
 rfl
theorem RO{l:List (List MV)}{i:Nat}(h:i<l.length){x:List MV}(hx:l.getD i []=x):l.set i x=l:=by
 subst hx
 rw[List.getD_eq_getElem?_getD,List.getElem?_eq_getElem h]
 exact List.set_getElem_self h
theorem Ce(s:ByteArray):∀i,i≤s.size→tT s i=bytesOf ((s.toList.take i).map (fun c=>[.int .u8 (o6 (c.toNat:Int))]))
 | 0,_=>rfl
 | i+1,h=>by
  have hl:i<s.toList.length:=by rw[xA];omega
  rw[tT,Ce s i oM,List.take_succ_eq_append_getElem hl,List.map_append,fch,bP 0 hl]
  unfold bytesOf
  exact ByteArray.ext (by rw[ByteArray.data_append];simp)
theorem Mu(s:ByteArray):bytesOf (oR s s.size)=fC s:=by
 rw[fC,Ce s s.size (Nat.le_refl _),oR,←xA,List.drop_length,List.map_nil,List.append_nil]
theorem Oq(s:ByteArray):(oR s s.size).all isByte=true:=by
 rw[List.all_eq_true]
 intro x hx
 unfold oR at hx
 rw[←xA,List.drop_length,List.map_nil,List.append_nil] at hx
 obtain⟨b,_,rfl⟩:=List.mem_map.1 hx
 have:=Ac (c:=(b.toNat:Int)) oM (by have:=b.toNat_lt;omega)
 simp[isByte,this]
theorem AA(s:ByteArray)(h:s.size≤1000000):aA Tryz.prog 297 [.str s] St.none (fun r _=>r=.str (fC s)):=by
 refine aA.bR (mB 30 [.tmp 2] Tryz.func297 ?_)
 repeat' first|(refine wM ?_;(first|(have _:=nl1)|(intro nl1));intros)|refine wZ1 @Tryz.f297.eq_1 ?_|fail
 refine aE (α:=Nat) (fun i=>⟨30,[(10,.int .i64 (i:Int)),(9,.int .i64 (s.size:Int)),(8,.vec 1 nl1 0 s.size),(3,.vec 1 nl1 0 s.size)],[]⟩)
  (fun i=>St.none.set nl1 (.row 5 1 (oR s i))) (fun i=>i≤s.size) (fun i=>s.size - i) ?_ ?_
 ·refine .of (.less ?_ (St.aB (St.none_le _) (by simp[St.set,oR]))) ⟨0,rfl,rfl,Nat.zero_le _⟩
  exact wW
 ·intro i hi
  have hi:i≤s.size:=hi
  have hrl:=RF s hi
  by_cases hlt:i<s.size
  ·have hat:=T6 hlt
   have hset:=RG hlt
   have hc0:0≤((s.toList.getD i 0).toNat:Int):=by omega
   have hc1:((s.toList.getD i 0).toNat:Int)≤255:=by have:=(s.toList.getD i 0).toNat_lt;omega
   obtain⟨c,hc⟩:∃c:Int,((s.toList.getD i 0).toNat:Int)=c:=⟨_,rfl⟩
   rw[hc] at hc0 hc1 hat hset
   have hsame:o6 c=c→(oR s i)=oR s (i+1):=fun e=>by rw[←hset,e,RO (by rw[hrl];exact hlt) hat]
   by_cases hcc:65≤c∧c≤90
   ·obtain⟨g1,g2⟩:=hcc
    have e:o6 c=c+97 - 65:=by unfold o6;rw[if_pos ⟨g1,g2⟩];omega
    rw[e] at hset
    repeat' first|refine wZ4 @hat @hrl @g1 @g2 ?_|fail
    refine .of (.less ?_ (σ1:=St.none.set nl1 (.row 5 1 (oR s (i+1)))) (by rw[hset];exact St.le_refl _)) ⟨i+1,rfl,rfl,by omega,by omega⟩
    exact wW
   ·have e:o6 c=c:=by unfold o6;rw[if_neg hcc]
    have hs':=hsame e
    repeat' first|(refine wY ?_ ?_<;>intro h)|refine wZ2 @hat @hrl ?_|fail
    all_goals first
     | (exfalso;omega)
     | refine .of (.less ?_ (σ1:=St.none.set nl1 (.row 5 1 (oR s (i+1)))) (by rw[hs'];exact St.le_refl _)) ⟨i+1,rfl,rfl,by omega,by omega⟩
    all_goals
     exact wW
  ·have:i=s.size:=by omega
   subst this
   have hfb:=Oq s
   have hfs:=Mu s
   have htk:(oR s s.size).take s.size=oR s s.size:=List.take_of_length_le (by rw[hrl];exact Nat.le_refl _)
   repeat' first|refine wZ4 @hrl @hfb @hfs @htk ?_|fail
   all_goals exact lE
end

section
def fnG:List (FuncId × (List MV→MV))→cC
 | []=>fun _ _=>none
 | p::r=>fun g ms=>if p.1=g then some ⟨[],fun v=>v=p.2 ms,none⟩ else fnG r g ms
theorem KW{g:FuncId}{u:List MV→MV}{r:List (FuncId × (List MV→MV))}{ms:List MV}{x:MV}(h:u ms=x):fnG ((g,u)::r) g ms=some ⟨[],fun v=>v=x,none⟩:=by
 subst h
 simp[fnG]
theorem Pt{g g':FuncId}{u:List MV→MV}{r:List (FuncId × (List MV→MV))}{ms:List MV}{F:Fact}(hne:(g'==g)=false)(h:fnG r g ms=some F):fnG ((g',u)::r) g ms=some F:=by
 have:g'≠g:=by simpa using hne
 simp[fnG,this,h]
theorem extract_eq(A B:ByteArray)(i:Nat):A.extract i (i+B.size)=B↔(A.data.toList.drop i).take B.size=B.data.toList:=by
 have e:(A.extract i (i+B.size)).data.toList=(A.data.toList.drop i).take B.size:=by
  simp[ByteArray.data_extract,Array.toList_extract,List.extract_eq_take_drop]
 constructor
 ·intro h
  rw[←e,h]
 ·intro h
  rw[←e] at h
  exact ByteArray.ext (Array.toList_inj.1 h)
theorem Ax(A B:ByteArray):rY A B=Go.Lib.contains A.data.toList B.data.toList:=by
 have hla:A.data.toList.length=A.size:=by rw[Array.length_toList];rfl
 have hlb:B.data.toList.length=B.size:=by rw[Array.length_toList];rfl
 have hocc:∀i,Go.Lib.occAt A.data.toList B.data.toList i=true↔(A.data.toList.drop i).take B.size=B.data.toList:=fun i=>by
  unfold Go.Lib.occAt
  rw[List.isPrefixOf_iff_prefix,List.prefix_iff_eq_take,hlb]
  exact eq_comm
 rw[Bool.eq_iff_iff]
 unfold rY Go.Lib.contains
 rw[List.any_eq_true,decide_eq_true_iff]
 constructor
 ·rintro⟨i,hi,h⟩
  have hi:=List.mem_range.1 hi
  have h:=(extract_eq A B i).1 (of_decide_eq_true h)
  rcases Go.Lib.index_spec A.data.toList B.data.toList with⟨_,h2⟩|⟨j,h1,_⟩
  ·have:=h2 i oM
   rw[(hocc i).2 h] at this
   cases this
  ·omega
 ·intro h
  rcases Go.Lib.index_spec A.data.toList B.data.toList with⟨h1,_⟩|⟨j,h1,h2,h3,_⟩
  ·omega
  ·have h4:=(hocc j).1 h3
   have h5:=congrArg List.length h4
   rw[List.length_take,List.length_drop,hla,hlb] at h5
   refine⟨j,List.mem_range.2 oM,decide_eq_true ((extract_eq A B j).2 h4)⟩
theorem GW(a b:VA)(ha:a.s.size≤1000000)(hb:b.s.size≤1000000):aA Tryz.prog 261 [.agg a.c,.agg b.c] St.none (fun r _=>r=.bool (lQ a b)):=by
 refine aA.bR (mB 22 [.tmp 4] Tryz.func261 ?_)
 have f1:=AA a.s ha
 have f2:=AA b.s hb
 have hc:=wZ (fC a.s) (fC b.s) (by rw[sE];exact ha)
 rw[←Ax] at hc
 have hd:lQ a b=(decide (a.kd=2)&&decide (b.kd=2)&&rY (fC a.s) (fC b.s)):=rfl
 obtain⟨C,c1,c2⟩:∃C:cC,(∀s,C 297 [.str s]=some ⟨[],fun v=>v=.str (fC s),none⟩)∧(∀ms,C 296 ms=some ⟨[],fun v=>v=.bool (rY (fC a.s) (fC b.s)),none⟩) :=
  ⟨fnG [(297,fun ms=>match ms with|[.str s]=>.str (fC s)|_=>.junk),(296,fun _=>.bool (rY (fC a.s) (fC b.s)))],fun s=>KW rfl,fun _=>Pt rfl (KW rfl)⟩
 have c1a:=c1 a.s
 have c1b:=c1 b.s
 clear c1
 generalize rY (fC a.s) (fC b.s)=p at hc hd c2
 generalize lQ a b=out at hd ⊢
 by_cases e1:a.kd=2
 ·by_cases e2:b.kd=2
  ·rw[decide_eq_true e1,decide_eq_true e2,Bool.true_and,Bool.true_and] at hd
   subst hd
   repeat' first|((with_reducible refine aI mixed ?chk C ?_);(case chk=>decide +kernel))|(with_reducible refine aG c1a f1 ?_)|(with_reducible refine aG c1b f2 ?_)|(with_reducible refine aG (c2 _) hc ?_)|(refine wO ?_;intros)|refine wZ3 @Tryz.f261.eq_1 @e1 @e2 ?_|fail
   all_goals exact lE
  ·rw[decide_eq_false e2,Bool.and_false,Bool.false_and] at hd
   subst hd
   repeat' first|((with_reducible refine aI mixed ?chk C ?_);(case chk=>decide +kernel))|(with_reducible refine aG c1a f1 ?_)|(with_reducible refine aG c1b f2 ?_)|(with_reducible refine aG (c2 _) hc ?_)|(refine wO ?_;intros)|refine wZ3 @Tryz.f261.eq_1 @e1 @e2 ?_|fail
   all_goals exact lE
 ·rw[decide_eq_false e1,Bool.false_and,Bool.false_and] at hd
  subst hd
  repeat' first|((with_reducible refine aI mixed ?chk C ?_);(case chk=>decide +kernel))|(with_reducible refine aG c1a f1 ?_)|(with_reducible refine aG c1b f2 ?_)|(with_reducible refine aG (c2 _) hc ?_)|(refine wO ?_;intros)|refine wZ2 @Tryz.f261.eq_1 @e1 ?_|fail
  all_goals exact lE
end

section
structure CD where
 id:Int
 ver:Int
 lab:Nat
 f:List VA
abbrev fcs(f:List VA):List MV:=(f.map VA.c).flatten
abbrev CD.c(c:CD):List MV:=.int .i64 c.id::.int .i64 c.ver::.int .u32 (c.lab:Int)::fcs c.f
theorem Di:∀f:List VA,(fcs f).length=3 * f.length
 | []=>rfl
 | v::f=>by have:=Di f;simp only[fcs,List.map_cons,List.flatten_cons,List.length_append,List.length_cons,List.length_nil] at this ⊢;omega
theorem Fa:∀(f:List VA) (i:Nat),(fcs f).drop (3 * i)=fcs (f.drop i)
 | f,0=>by simp
 | [],i+1=>by simp[fcs]
 | v::f,i+1=>by
  have:=Fa f i
  rw[show 3 * (i+1)=3 * i+1+1+1 by omega]
  simp only[fcs,List.map_cons,List.flatten_cons,List.cons_append,List.nil_append,List.drop_succ_cons] at this ⊢
  exact this
theorem U4{f:List VA}{i:Nat}(h:i<f.length):(fcs f).drop (3 * i)=.int .i64 (f.getD i va0).kd::.int .i64 (f.getD i va0).n::.str (f.getD i va0).s::fcs (f.drop (i+1)):=by
 rw[Fa,List.drop_eq_getElem_cons h,bP va0 h];rfl
theorem B6(c:CD){i:Nat}(h:i<c.f.length):c.c.drop (3+i * 3)=.int .i64 (c.f.getD i va0).kd::.int .i64 (c.f.getD i va0).n::.str (c.f.getD i va0).s::fcs (c.f.drop (i+1)):=by
 rw[show 3+i * 3=3 * i+1+1+1 by omega]
 simp only[CD.c,List.drop_succ_cons]
 exact U4 h
theorem O2(c:CD){i:Nat}(h:i<c.f.length){d:MV}:c.c.getD (3+i * 3) d=.int .i64 (c.f.getD i va0).kd:=by
 have:=B6 c h
 rw[List.getD_eq_getElem?_getD,←List.head?_drop,this];rfl
theorem L5(c:CD){i:Nat}(h:i<c.f.length):(c.c.drop (3+i * 3)).take 3=(c.f.getD i va0).c:=by
 rw[B6 c h];rfl
theorem zS:∀f:List VA,(fcs f).all MV.aL=true
 | []=>rfl
 | v::f=>by
  have:=zS f
  simp only[fcs,List.map_cons,List.flatten_cons,List.cons_append,List.nil_append,List.all_cons] at this ⊢
  rw[this];rfl
theorem qO(c:CD):c.c.all MV.aL=true:=by
 simp only[CD.c,List.all_cons,zS];rfl
theorem tK(c:CD):c.c.length=3+3 * c.f.length:=by simp only[CD.c,List.length_cons,Di];omega
theorem CW{v w:VA}:decide (v.kd=w.kd∧v.n=w.n∧v.s=w.s)=decide (v=w) :=
 decide_eq_decide.2 ⟨fun⟨h1,h2,h3⟩=>by cases v;cases w;simp only at h1 h2 h3;rw[h1,h2,h3],fun h=>by rw[h];exact⟨rfl,rfl,rfl⟩⟩
def cI(c:CD)(g:Nat)(n:ND):Bool :=
 if n.op=1 then true else if n.op=3 then hasB c.lab n.n else if n.op=4 then hasB g n.n
 else if n.op=5 then !decide ((c.f.getD n.n.toNat va0).kd=0)
 else if n.op=6 then decide (c.f.getD n.n.toNat va0=n.v)
 else if n.op=7 then kP (c.f.getD n.n.toNat va0) n.v
 else if n.op=8 then kP n.v (c.f.getD n.n.toNat va0)
 else if n.op=9 then lQ (c.f.getD n.n.toNat va0) n.v
 else false
structure CF (c:CD):Prop where
 len:c.f.length=8
 size:∀v,v∈c.f→v.s.size≤1000000
 lab:c.lab<4294967296
set_option maxHeartbeats 4000000 in
theorem Kf (x:ND) (hx:fP x=true) (c:CD) (hc:CF c) (g:Nat) (hg:g<4294967296):aA Tryz.prog 175 [.agg x.c,.agg c.c,.int .u32 (g:Int)] St.none (fun r _=>r=.bool (cI c g x)):=by
 refine(mB 73 [.tmp 6] Tryz.func175 ?_)
 have hlen:=tK c
 rw[hc.len] at hlen
 have hlab:=rE c.lab x.n hc.lab
 have hgrp:=rE g x.n hg
 have hcell:=qO c
 obtain⟨cells,hcells⟩:∃cells,c.c=cells:=⟨_,rfl⟩
 by_cases h5:5≤x.op∧x.op≤9
 ·have hn:0≤x.n∧x.n<8:=by
   have h:=hx
   have e:x.op=5∨x.op=6∨x.op=7∨x.op=8∨x.op=9:=by omega
   rcases e with e|e|e|e|e<;>simp[fP,e] at h<;>omega
  obtain⟨k,hk⟩:∃k:Nat,x.n=k:=⟨x.n.toNat,by omega⟩
  have hk8:k<8:=by omega
  have hkl:k<c.f.length:=by rw[hc.len];omega
  have hget:=O2 c hkl (d:=.junk)
  have htake:=L5 c hkl
  have hvm:=fR va0 hkl
  have hvs:=hc.size _ hvm
  have hxs:=CC hx
  have hle1:=x7 (c.f.getD k va0) x.v hvs hxs
  have hle2:=x7 x.v (c.f.getD k va0) hxs hvs
  have hho:=Eo (c.f.getD k va0) x.v hvs hxs
  have hlb:cI c g x=(if x.op=5 then !decide ((c.f.getD k va0).kd=0)
   else if x.op=6 then decide (c.f.getD k va0=x.v)
   else if x.op=7 then kP (c.f.getD k va0) x.v
   else if x.op=8 then kP x.v (c.f.getD k va0)
   else lQ (c.f.getD k va0) x.v):=by
   unfold cI
   rw[if_neg oM,if_neg oM,if_neg oM,hk]
   simp only[Int.toNat_natCast]
   by_cases e5:x.op=5
   ·rw[if_pos e5,if_pos e5]
   ·rw[if_neg e5,if_neg e5]
    by_cases e6:x.op=6
    ·rw[if_pos e6,if_pos e6]
    ·rw[if_neg e6,if_neg e6]
     by_cases e7:x.op=7
     ·rw[if_pos e7,if_pos e7]
     ·rw[if_neg e7,if_neg e7]
      by_cases e8:x.op=8
      ·rw[if_pos e8,if_pos e8]
      ·rw[if_neg e8,if_neg e8,if_pos oM]
  rw[hlb]
  rw[hcells] at hget htake hlen hcell ⊢
  clear hlab hgrp hlb
  generalize c.f.getD k va0=v at hget htake hvs hle1 hle2 hho ⊢
  have hop:x.op=5∨x.op=6∨x.op=7∨x.op=8∨x.op=9:=by omega
  rcases hop with h|h|h|h|h
  all_goals
   simp(config:={ decide:=true }) only[h,if_true,if_false]
   repeat' first|(with_reducible first|refine up hle1 ?_|refine up hle2 ?_|refine up hho ?_)|(refine wO ?_;intros)|refine wZ7 @Tryz.f175.eq_1 @h @hk @hget @htake @hlen @hcell ?_|exact wC7 @Tryz.f175.eq_1 @h @hk @hget @htake @hlen @hcell|fail
  ·exact CW
  ·refine aI mixed dK (fun _ _=>some ⟨[],fun r=>r=.bool (kP v x.v),none⟩) ?_
   repeat' first|(with_reducible refine aG rfl hle1 ?_)|refine wZ6 @h @hk @hget @htake @hlen @hcell ?_|exact wC6 @h @hk @hget @htake @hlen @hcell|fail
  ·refine aI mixed dK (fun _ _=>some ⟨[],fun r=>r=.bool (kP x.v v),none⟩) ?_
   repeat' first|(with_reducible refine aG rfl hle2 ?_)|refine wZ6 @h @hk @hget @htake @hlen @hcell ?_|exact wC6 @h @hk @hget @htake @hlen @hcell|fail
  ·refine aI mixed dK (fun _ _=>some ⟨[],fun r=>r=.bool (lQ v x.v),none⟩) ?_
   repeat' first|(with_reducible refine aG rfl hho ?_)|refine wZ6 @h @hk @hget @htake @hlen @hcell ?_|exact wC6 @h @hk @hget @htake @hlen @hcell|fail
 ·have hlb:cI c g x=(if x.op=1 then true else if x.op=3 then hasB c.lab x.n else if x.op=4 then hasB g x.n else false):=by
   unfold cI
   rw[if_neg (show ¬x.op=5 by omega),if_neg (show ¬x.op=6 by omega),if_neg (show ¬x.op=7 by omega),if_neg (show ¬x.op=8 by omega),if_neg (show ¬x.op=9 by omega)]
  rw[hlb]
  have hff:=zS c.f
  have hfl:=Di c.f
  rw[hc.len] at hfl
  simp only[CD.c]
  generalize fcs c.f=ff at hff hfl ⊢
  have n5:x.op≠5:=by omega
  have n6:x.op≠6:=by omega
  have n7:x.op≠7:=by omega
  have n8:x.op≠8:=by omega
  have n9:x.op≠9:=by omega
  clear hlb hcell hcells hlen h5
  by_cases e1:x.op=1
  ·rw[if_pos e1]
   repeat' first|(with_reducible first|refine up hlab ?_|refine up hgrp ?_)|(refine wO ?_;intros)|refine wZ3 @Tryz.f175.eq_1 @hff @hfl ?_|exact wC3 @Tryz.f175.eq_1 @hff @hfl|fail
  ·rw[if_neg e1]
   by_cases e3:x.op=3
   ·rw[if_pos e3]
    repeat' first|(with_reducible first|refine up hlab ?_|refine up hgrp ?_)|(refine wO ?_;intros)|refine wZ3 @Tryz.f175.eq_1 @hff @hfl ?_|exact wC3 @Tryz.f175.eq_1 @hff @hfl|fail
   ·rw[if_neg e3]
    by_cases e4:x.op=4
    ·rw[if_pos e4]
     repeat' first|(with_reducible first|refine up hlab ?_|refine up hgrp ?_)|(refine wO ?_;intros)|refine wZ3 @Tryz.f175.eq_1 @hff @hfl ?_|exact wC3 @Tryz.f175.eq_1 @hff @hfl|fail
    ·rw[if_neg e4]
     repeat' first|(with_reducible first|refine up hlab ?_|refine up hgrp ?_)|(refine wO ?_;intros)|refine wZ3 @Tryz.f175.eq_1 @hff @hfl ?_|exact wC3 @Tryz.f175.eq_1 @hff @hfl|fail
set_option maxHeartbeats 8000000 in
theorem mN (c:CD) (hc:CF c) (g:Nat) (hg:g<4294967296):∀(t:T),Good t→t.fl.length≤1000→∀(tt:Bool),
  aA Tryz.prog 90 [.lst 5 (t.fl.map ND.c) tt,.agg c.c,.int .u32 (g:Int)] St.none (fun r _=>r=.bool (t.sem (cI c g)))
 | .leaf x,h,hl,tt=>by
  refine(mB 61 [.tmp 6] Tryz.func90 ?_)
  have hk:=oQ (.leaf x) h.1 hl tt
  have hp:x.op≠10∧x.op≠11∧x.op≠12:=by
   refine⟨fun e=>?_,fun e=>?_,fun e=>?_⟩<;>(have h:=h.1;simp only[T.ok,e] at h;revert h;decide)
  obtain⟨p1,p2,p3⟩:=hp
  have hlf:=Kf x (h.2 x (by simp[T.fl])) c hc g hg
  have hcell:=qO c
  have hlen:=tK c
  rw[hc.len] at hlen
  have ht27:List.take 27 c.c=c.c:=List.take_of_length_le oM
  have e:(T.leaf x).sem (cI c g)=cI c g x:=by
   by_cases h1:x.op=1
   ·simp[T.sem,cI,h1]
   ·by_cases h2:x.op=2
    ·simp[T.sem,cI,h2]
    ·simp[T.sem,h1,h2]
  rw[e]
  generalize c.c=cells at hcell hlen ht27 hlf ⊢
  simp only[T.fl,T.kl,T.kids,List.map_cons,List.map_nil] at hk ⊢
  repeat' first|(with_reducible first|refine up hk ?_|refine up hlf ?_)|(refine wO ?_;intros)|refine wZ3 @Tryz.f90.eq_1 @hcell @hlen ?_|fail
  refine aI mixed dK (fun _ _=>some ⟨[],fun r=>r=.bool (cI c g x),none⟩) ?_
  repeat' first|(with_reducible refine aG rfl hlf ?_)|refine wZ3 @hcell @hlen @ht27 ?_|exact wC3 @hcell @hlen @ht27|fail
 | .one x a,h,hl,tt=>by
  refine(mB 61 [.tmp 6] Tryz.func90 ?_)
  have hk:=oQ (.one x a) h.1 hl tt
  have h1:=CI h.1.1
  have hla:a.fl.length≤1000:=by simp only[T.fl,List.length_cons] at hl;omega
  have ih:=mN c hc g hg a (zW.1 h).2.2 hla false
  have hcell:=qO c
  have hlen:=tK c
  rw[hc.len] at hlen
  have ht27:List.take 27 c.c=c.c:=List.take_of_length_le oM
  generalize c.c=cells at hcell hlen ht27 ih ⊢
  simp only[T.fl,T.kl,T.kids,List.map_cons,List.map_nil] at hk ⊢
  repeat' first|(with_reducible first|refine up hk ?_|refine up ih ?_)|(refine wO ?_;intros)|refine wZ4 @Tryz.f90.eq_1 @h1 @hcell @hlen ?_|fail
  refine aI mixed dK (fun _ _=>some ⟨[],fun r=>r=.bool (a.sem (cI c g)),none⟩) ?_
  repeat' first|(with_reducible refine aG rfl ih ?_)|refine wZ3 @hcell @hlen @ht27 ?_|fail
  simp[T.sem]
 | .two x a b,h,hl,tt=>by
  refine(mB 61 [.tmp 6] Tryz.func90 ?_)
  have hk:=oQ (.two x a b) h.1 hl tt
  obtain⟨q1,_,ga,gb⟩:=zX.1 h
  have hla:a.fl.length≤1000∧b.fl.length≤1000:=by simp only[T.fl,List.length_cons,List.length_append] at hl;omega
  have iha:=mN c hc g hg a ga hla.1 false
  have ihb:=mN c hc g hg b gb hla.2 false
  have hs:(T.two x a b).sem (cI c g)=if x.op=11 then a.sem (cI c g)&&b.sem (cI c g) else a.sem (cI c g) || b.sem (cI c g):=by
   by_cases e:x.op=11<;>simp[T.sem,e]
  rw[hs]
  have hcell:=qO c
  have hlen:=tK c
  rw[hc.len] at hlen
  have ht27:List.take 27 c.c=c.c:=List.take_of_length_le oM
  generalize c.c=cells at hcell hlen ht27 iha ihb ⊢
  obtain⟨C,hC⟩:∃C,C=kn [(90,[.lst 5 (a.fl.map ND.c) false,.agg cells,.int .u32 (g:Int)],⟨[],fun v=>v=.bool (a.sem (cI c g)),none⟩),(90,[.lst 5 (b.fl.map ND.c) false,.agg cells,.int .u32 (g:Int)],⟨[],fun v=>v=.bool (b.sem (cI c g)),none⟩)]:=⟨_,rfl⟩
  have fa:C 90 [.lst 5 (a.fl.map ND.c) false,.agg cells,.int .u32 (g:Int)]=some ⟨[],fun v=>v=.bool (a.sem (cI c g)),none⟩:=by rw[hC];exact vR
  have fb:C 90 [.lst 5 (b.fl.map ND.c) false,.agg cells,.int .u32 (g:Int)]=some ⟨[],fun v=>v=.bool (b.sem (cI c g)),none⟩:=by
   rw[hC]
   refine Lc (fun h=>?_) vR
   have h:=h.2
   simp only[List.cons.injEq,MV.lst.injEq,true_and,and_true] at h
   rw[Wp ga.1 gb.1 (Gy h)]
  clear hC hs
  generalize a.sem (cI c g)=sa at iha fa ⊢
  generalize b.sem (cI c g)=sb at ihb fb ⊢
  simp only[T.fl,T.kl,T.kids,List.map_cons,List.map_nil] at hk ⊢
  rcases CJ q1 with h1|h1<;>rw[h1]
  ·rw[if_pos rfl]
   cases sa
   all_goals
    repeat' first|(with_reducible first|refine up hk ?_|refine up iha ?_|refine up ihb ?_)|(refine wO ?_;intros)|refine wZ4 @Tryz.f90.eq_1 @h1 @hcell @hlen ?_|fail
    refine aI mixed dK C ?_
    repeat' first|(with_reducible refine aG fa iha ?_)|(with_reducible refine aG fb ihb ?_)|refine wZ3 @hcell @hlen @ht27 ?_|exact wC3 @hcell @hlen @ht27|fail
    all_goals (first|rfl|(cases sb<;>rfl))
  ·rw[if_neg (by decide)]
   cases sa
   all_goals
    repeat' first|(with_reducible first|refine up hk ?_|refine up iha ?_|refine up ihb ?_)|(refine wO ?_;intros)|refine wZ4 @Tryz.f90.eq_1 @h1 @hcell @hlen ?_|fail
    refine aI mixed dK C ?_
    repeat' first|(with_reducible refine aG fa iha ?_)|(with_reducible refine aG fb ihb ?_)|refine wZ3 @hcell @hlen @ht27 ?_|fail
    all_goals (first|rfl|(cases sb<;>rfl))
end

section
inductive InD (D:Nat→Prop):MV→Prop where
 | flat {m:MV} (h:Flat m):InD D m
 | ptr {l i o:Nat} (h:D l):InD D (.ptr l i o)
 | vec {e l lo n:Nat} (h:D l):InD D (.vec e l lo n)
 | mapv {l:Nat} (h:D l):InD D (.mapv l)
 | lst {e:Nat} {xs:List (List MV)} {t:Bool} (h:∀x,x∈xs→∀m,m∈x→InD D m):InD D (.lst e xs t)
 | cptr {cs:List MV} (h:∀m,m∈cs→InD D m):InD D (.cptr cs)
 | agg {cs:List MV} (h:∀m,m∈cs→InD D m):InD D (.agg cs)
 | fn {f:Fn} {ms ns:List MV} (h1:∀m,m∈ms→InD D m) (h2:∀m,m∈ns→InD D m):InD D (.fn f ms ns)
theorem InD.of{D:Nat→Prop}{m:MV}(h:nA m):InD D m:=by
 induction h with
 | flat h=>exact .flat h
 | lst _ ih=>exact .lst ih
 | cptr _ ih=>exact .cptr ih
 | agg _ ih=>exact .agg ih
theorem InD.rel{D:Nat→Prop}{Φ Φ':Phi}(hs:∀a v,Φ.snap a=some v→Φ'.snap a=some v)(ho:∀l p,D l→Φ.obj l=some p→Φ'.obj l=some p){m:MV}(h:InD D m):∀{v:Value},Rel Φ v m→Rel Φ' v m:=by
 induction h with
 | flat h=>intro v r;exact h.rel r
 | ptr h =>
  intro v r
  cases r with
  | ptr h1 h2=>exact .ptr (ho _ _ h h1) h2
 | vec h =>
  intro v r
  cases r with
  | vec h1 h2 h3 h4=>exact .vec (ho _ _ h h1) h2 h3 h4
  | vec0 a h1 h2=>exact .vec0 a (ho _ _ h h1) h2
  | vecn h1 h2 h3=>exact .vecn (ho _ _ h h1) h2 h3
 | mapv h =>
  intro v r
  cases r with
  | mapv h1 h2=>exact .mapv (ho _ _ h h1) h2
 | lst h ih =>
  intro v r
  cases r with
  | lstn=>exact .lstn _ _
  | lst0 a _ cap _ ht hm=>exact .lst0 a _ cap _ ht hm
  | lst hl h0 hcap hm ht hx vs hc hr =>
   exact .lst hl h0 hcap hm ht hx vs (fun i x j m a b=>⟨(hc i x j m a b).1,hs _ _ (hc i x j m a b).2⟩) fun i x j m a b=>ih x (List.mem_of_getElem? a) m (List.mem_of_getElem? b) (hr i x j m a b)
 | cptr h ih =>
  intro v r
  cases r with
  | cptr vs hc hr=>exact .cptr vs (fun j m hm=>⟨(hc j m hm).1,hs _ _ (hc j m hm).2⟩) fun j m hm=>ih m (List.mem_of_getElem? hm) (hr j m hm)
 | agg h ih =>
  intro v r
  cases r with
  | agg h1 h2 h3=>exact .agg h1 h2 fun i m hm=>ih m (List.mem_of_getElem? hm) (h3 i m hm)
 | fn h1 h2 ih1 ih2 =>
  intro v r
  cases r with
  | fn _ k1 k2 r1 r2=>exact .fn _ k1 k2 (fun i m hm=>ih1 m (List.mem_of_getElem? hm) (r1 i m hm)) fun i m hm=>ih2 m (List.mem_of_getElem? hm) (r2 i m hm)
def Ut(P:Program)(g:FuncId)(ns:List MV)(σi:St)(xs:List (List MV))(K:St→Prop):Prop :=
 Enters P g∧∀(l:Nat) (Y:Nat→YS→Prop) (Yx:YS→Prop) (Φ:Phi) (w:World) (S:YS) (vs:Array Value),tF P l xs Y Yx Φ σi w.heap.size→Inv Φ w σi→Apt Φ σi S w→Y 0 S→iU Φ vs ns →
  Calls P g (#[.func (.yield l) #[] #[]]++vs) w fun e w'=>∃v Φ' σ' S',e=.returned v∧Inv Φ' w' σ'∧Apt Φ' σ' S' w'∧eV Φ σi w S Φ' σ' w' S'∧(Y xs.length S'∨Yx S')∧K σ'
theorem RQ{σ:St}{a k:Nat}{o x:aW}(h:(σ.set a o) k=some x):(k=a∧x=o)∨(k≠a∧σ k=some x):=by
 by_cases e:k=a
 ·subst e;rw[aD] at h;exact .inl ⟨rfl,(Option.some.inj h).symm⟩
 ·rw[aF _ _ _ _ e] at h;exact .inr ⟨e,h⟩
theorem aV.cut{f:FR}{σ:St}{q:Nat}{t:TypeId}{e:Nat}{xs ex:List (List MV)}(h:σ q=some (.row t e (xs++ex))):aV f σ f (σ.set q (.row t e xs)):=by
 have hd:∀l o,(σ.set q (.row t e xs)) l=some o→∃o',σ l=some o':=fun l o hl=>by
  rcases RQ hl with⟨rfl,rfl⟩|⟨_,h1⟩
  ·exact⟨_,h⟩
  ·exact⟨_,h1⟩
 refine⟨rfl,fun Φ w vs hi hr=>⟨Φ,⟨fun l o hl=>?_,fun a b o o' p p' R h1 h2 h3 h4 h5 h6=>?_,hi.snap,fun l o p R a v h1 h2 h3 h4=>?_,hi.fresh⟩,hr,.refl _,rfl,rfl,rfl,Nat.le_refl _,Nat.le_refl _,fun _ _ _=>rfl,fun _ _ hv=>.inl hv,fun l o hl=>.inl (hd l o hl),fun R hR=>.inl ?_⟩⟩
 ·rcases RQ hl with⟨rfl,rfl⟩|⟨_,h1⟩
  ·obtain⟨p,h1,h2,h3,h4,h5,h6⟩:=hi.own l _ h
   have at_:∀{i:Nat} {x:List MV},xs[i]?=some x→(xs++ex)[i]?=some x:=fun hx=>by
    rw[List.getElem?_append_left (List.getElem?_eq_some_iff.1 hx).1];exact hx
   refine⟨p,h1,h2,by rw[List.length_append] at h3;omega,h4,fun i x hx=>h5 i x (at_ hx),?_⟩
   cases hb:p.blk with
   | none=>simp only[hb] at h6;exact h6
   | some R =>
    simp only[hb] at h6
    obtain⟨c,fz,k1,k2,k3,k4⟩:=h6
    exact⟨c,fz,k1,k2,k3,fun i x j m hx hm=>k4 i x j m (at_ hx) hm⟩
  ·exact hi.own l o h1
 ·obtain⟨oa,ha⟩:=hd a o h1
  obtain⟨ob,hb⟩:=hd b o' h2
  exact hi.inj a b oa ob p p' R ha hb h3 h4 h5 h6
 ·obtain⟨oa,ha⟩:=hd l o h1
  exact hi.apart l oa p R a v ha h2 h3 h4
 ·obtain⟨l,o,p,h1,h2,h3⟩:=hR
  obtain⟨oa,ha⟩:=hd l o h1
  exact⟨l,oa,p,ha,h2,h3⟩
def Wz(n:Nat)(K:St→Prop):YQ
 | .normal,f,σ,t=>f.d=[]∧(t=some n∨t=none)∧K σ
 | .ret,f,σ,t=>f.d=[]∧(t=some n∨t=none)∧K σ
 | _,_,_,_=>False
theorem FE{P:Program}{fn:Func}{tmps:Array Value}{C:YC}{t:Option Nat}(hrs:fn.results.toList=[]){Φ0:Phi}{σ0:St}{w0:World}{S0:YS}(h0:Φ0.base=w0.heap.size){R:Ending→World→Prop}{K:St→Prop}(hR:∀v Φ' w' σ' S',j9 C Φ' σ' w' S' t→eV Φ0 σ0 w0 S0 Φ' σ' w' S'→K σ'→R (.returned v) w') :
  ∀(ds:List Deferred) (Φ:Phi) (w:World) (σ:St) (S:YS),eG Φ w ds []→j9 C Φ σ w S t→eV Φ0 σ0 w0 S0 Φ σ w S→K σ→jU P fn tmps R ds w:=by
 intro ds
 induction ds with
 | nil =>
  intro Φ w σ S _ hi hs hk
  refine⟨.tuple #[],?_,hR _ Φ w σ S hi hs hk⟩
  rw[oP]
  have:fn.results=#[]:=Array.toList_eq_nil_iff.1 hrs
  simp only[this]
  first|rfl|simp[Sem.run_bind,Sem.run_pure]
 | cons x ds ih =>
  intro Φ w σ S hd hi hs hk
  rcases hd with⟨D,h1,h2,h3,h4,h5⟩|⟨g,ms,r,cap,h,_⟩
  ·refine .inl ⟨D,_,h1,run_takeDeferred h3,?_⟩
   have hDb:w0.heap.size≤D:=by rw[←h0,←hs.le.base];exact h2
   have i':=hi.inv.putObj (.deferred none) h3 (fun _ _ _ e=>by cases e) (fun _ _ e=>by cases e)
   have s':eV Φ0 σ0 w0 S0 Φ σ (w.putObj D (.deferred none)) S :=
    ⟨hs.le,hs.os,hs.tape,hs.output,hs.drawn,by rw[World.putObj_size];exact hs.size,fun k hk hn hw=>(World.putObj_heap_other oM).trans (hs.block k hk hn hw),hs.snapn,hs.ownd,hs.wr,hs.sn⟩
   refine ih Φ _ σ S ?_ ⟨i',hi.apt.putObj _ h3,hi.snapn,hi.ownd,by rw[World.putObj_size];exact hi.size,hi.st⟩ s' hk
   have:∀(xs:List Deferred) (d:List (FuncId × List MV)),(∀y,y∈xs→y.target≠.collected D)→eG Φ w xs d→eG Φ (w.putObj D (.deferred none)) xs d:=by
    intro xs
    induction xs with
    | nil=>intro d _ h;exact⟨h.1,by rw[World.putObj_size];exact h.2⟩
    | cons y xs ihx =>
     intro d hy h
     rcases h with⟨D',k1,k2,k3,k4,k5⟩|⟨g,ms,r,cap,k1,k2,k3,k4⟩
     ·refine .inl ⟨D',k1,k2,?_,k4,ihx d (fun z hz=>hy z (by simp[hz])) k5⟩
      rw[World.putObj_heap_other]
      ·exact k3
      ·intro e;exact hy y (by simp) (by rw[k1,e])
     ·exact .inr ⟨g,ms,r,cap,k1,k2,k3,ihx r (fun z hz=>hy z (by simp[hz])) k4⟩
   exact this ds [] h4 h5
  ·cases h
theorem Ut.iB{P:Program}{g:FuncId}{fn:Func}{c:Code}{ns:List MV}{σi:St}{xs:List (List MV)}{K:St→Prop}(n:Nat)(hf:P.funcs[g]?=some fn)(hb:fn.body=some c)(hn:(fn.name == "runtime.NumGoroutine")=false)
 (hn':max fn.ntmps (ns.length+1)=n)(hrs:fn.results.toList=[])
 (h:∀C:YC,C.xs=xs→tF P C.l C.xs C.Y C.Yx C.Φ0 C.σ0 C.n0→ywp P C c ⟨n,gZ 0 (.fn (.yield C.l) [] []::ns),[]⟩ σi (some 0) (Wz xs.length K)):Ut P g ns σi xs K:=by
 refine⟨⟨fn,hf,by simp[hb],hn⟩,fun l Y Yx Φ w S vs hspec hi ha h0 hr=>?_⟩
 obtain⟨C,hC⟩:∃C:YC,C=⟨l,xs,Y,Yx,Φ.aZ w.heap.size,σi,w.heap.size⟩:=⟨_,rfl⟩
 have hargs:iU (Φ.aZ w.heap.size) (#[Value.func (.yield l) #[] #[]]++vs) (.fn (.yield l) [] []::ns):=by
  refine⟨by simp[hr.1];omega,fun i m hm=>?_⟩
  cases i with
  | zero =>
   simp only[List.getElem?_cons_zero,Option.some.injEq] at hm
   subst hm
   have e:(#[Value.func (.yield l) #[] #[]]++vs).getD 0 undef=Value.func (.yield l) #[] #[]:=by
    simp[Array.getD_eq_getD_getElem?,Array.getElem?_append]
   rw[e]
   exact uL _ (.func (.yield l) #[] #[])
  | succ i =>
   have:=(hr.2 i m (by simpa using hm)).aZ w.heap.size
   have e:(#[Value.func (.yield l) #[] #[]]++vs).getD (i+1) undef=vs.getD i undef:=by
    simp[Array.getD_eq_getD_getElem?,Array.getElem?_append]
   rw[e];exact this
 have hfr:=vL (fn:=fn) hargs
 rw[List.length_cons,hn'] at hfr
 have hbody:=h C (by rw[hC]) (by rw[hC];exact hspec.aZ _)
 have hst:j9 C (Φ.aZ w.heap.size) σi w S (some 0):=by
  subst hC
  exact⟨hi.aZ _,ha.aZ _,fun a v q=>.inl q,fun R q=>.inl q,Nat.le_refl _,h0⟩
 have hl:C.l=l:=by rw[hC]
 rw[hl] at hbody
 refine(nW (R:=fun e w'=>∃v Φ' σ' S',e=.returned v∧(j9 C Φ' σ' w' S' (some xs.length)∨j9 C Φ' σ' w' S' none)∧eV (Φ.aZ w.heap.size) σi w S Φ' σ' w' S'∧K σ') hf hb (wp_mono (wpIn_wide.1 (hbody _ .wide (Φ.aZ w.heap.size) w { tmps:=_,defers:=[] } S hst hfr ⟨rfl,Nat.le_refl _⟩)) ?_)).mono ?_
 ·rintro e a' w' ⟨f',σ',t',Φ',S',q1,q2,q3,q4,q5⟩
  have fin:(t'=some xs.length∨t'=none)→f'.d=[]→K σ'→jU P fn a'.tmps (fun e w'=>∃v Φ' σ' S',e=.returned v∧(j9 C Φ' σ' w' S' (some xs.length)∨j9 C Φ' σ' w' S' none)∧eV (Φ.aZ w.heap.size) σi w S Φ' σ' w' S'∧K σ') a'.defers w':=by
   intro ht hd hk
   rw[hd] at q3
   rcases ht with rfl|rfl
   ·exact FE (K:=K) (P:=P) (fn:=fn) (tmps:=a'.tmps) hrs (Φ0:=Φ.aZ w.heap.size) (w0:=w) rfl (fun v Φ'' w'' σ'' S'' q qs k=>⟨v,Φ'',σ'',S'',rfl,.inl q,qs,k⟩) a'.defers Φ' w' σ' S' q3 q1 q4 hk
   ·exact FE (K:=K) (P:=P) (fn:=fn) (tmps:=a'.tmps) hrs (Φ0:=Φ.aZ w.heap.size) (w0:=w) rfl (fun v Φ'' w'' σ'' S'' q qs k=>⟨v,Φ'',σ'',S'',rfl,.inr q,qs,k⟩) a'.defers Φ' w' σ' S' q3 q1 q4 hk
  cases e with
  | normal=>exact⟨.inl rfl,fin q5.2.1 q5.1 q5.2.2⟩
  | ret=>exact⟨.inr rfl,fin q5.2.1 q5.1 q5.2.2⟩
  | _=>exact q5.elim
 ·rintro e w' ⟨v,Φ',σ',S',rfl,q,qs,hk⟩
  subst hC
  rcases q with q|q
  ·exact⟨v,Φ'.aZ Φ.base,σ',S',rfl,q.inv.aZ _,q.apt.aZ _,qs.aZ,.inl q.st,hk⟩
  ·exact⟨v,Φ'.aZ Φ.base,σ',S',rfl,q.inv.aZ _,q.apt.aZ _,qs.aZ,.inr q.st,hk⟩
structure zB (A:Nat→Prop) (Φ0:Phi) (σ0:St) (n0:Nat) (Φ:Phi) (σ:St):Prop where
 le:Φ0.le Φ
 snapn:∀a v,Φ.snap a=some v→Φ0.snap a=some v∨n0≤a.block∨a8 Φ0 σ0 a.block
 locs:∀l o,σ l=some o→A l∨Φ0.obj l=none
 ownd:∀R,a8 Φ σ R→a8 Φ0 σ0 R∨n0≤R
theorem zB.step{A:Nat→Prop}{Φ0 Φ Φ':Phi}{σ0 σ σ':St}{n0:Nat}{w w':World}(h:zB A Φ0 σ0 n0 Φ σ)(hn:n0≤w.heap.size)(k:Step Φ σ w Φ' σ' w'):zB A Φ0 σ0 n0 Φ' σ' where
 le:=h.le.trans k.le
 snapn:=fun a v hv=>by
  rcases k.snapn a v hv with q|q|q
  ·exact h.snapn a v q
  ·exact .inr (.inl (Nat.le_trans hn q))
  ·rcases h.ownd _ q with q|q
   ·exact .inr (.inr q)
   ·exact .inr (.inl q)
 locs:=fun l o hl=>by
  rcases k.locs l o hl with⟨o',q⟩|q
  ·exact h.locs l o' q
  ·right
   cases hl:Φ0.obj l with
   | none=>rfl
   | some p=>have:=h.le.obj l p hl;simp[this] at q
 ownd:=fun R hR=>by
  rcases k.ownd R hR with q|q
  ·exact h.ownd R q
  ·exact .inr (Nat.le_trans hn q)
structure SE (A:Nat→Prop) (Φ0:Phi) (σ0:St) (n0:Nat) (tmps:Array Value) (fc:FR) (l:Nat) (st:Loop) (σ:St) (S:YS) (Φ:Phi):Prop where
 inv:Inv Φ S.w σ
 frame:dD Φ tmps fc
 step:zB A Φ0 σ0 n0 Φ σ
 wr:∀k,S.wr k↔(a8 Φ σ k∨k=l)
 sn:∀a,S.sn a=Φ.snap a
 lrec:S.w.heap[l]?=some (.loop st)
 size:n0≤S.w.heap.size
 base:Φ.base≤S.w.heap.size
theorem SE.agree{A:Nat→Prop}{Φ0 Φ:Phi}{σ0 σ:St}{n0:Nat}{tmps:Array Value}{fc:FR}{l:Nat}{st:Loop}{S:YS}(h:SE A Φ0 σ0 n0 tmps fc l st σ S Φ):oW S S.w :=
 ⟨fun _ _=>rfl,fun k hk=>by
  rcases (h.wr k).1 hk with q|rfl
  ·obtain⟨l',o,p,h1,h2,h3⟩:=q
   obtain⟨p',e,hlt⟩:=(h.inv.own l' o h1).place
   rw[h2] at e;cases e
   exact hlt k h3
  ·exact(Array.getElem?_eq_some_iff.1 h.lrec).1,(fun k hk x e=>by
  rcases (h.wr k).1 hk with q|rfl
  ·exact h.inv.mark e q
  ·rw[h.lrec] at e;cases e),fun a v q=>h.inv.snap a v (by rw[←h.sn a];exact q),Nat.le_refl _,rfl,rfl,rfl,Nat.le_refl _⟩
theorem SE.at{A:Nat→Prop}{Φ0 Φ:Phi}{σ0 σ:St}{n0:Nat}{tmps:Array Value}{fc:FR}{l:Nat}{st:Loop}{S:YS}(h:SE A Φ0 σ0 n0 tmps fc l st σ S Φ){w:World}(ha:oW S w){Ψ:Phi}(ho:∀m,Ψ.obj m=none)
 (hs:∀a v,Ψ.snap a=some v→w.cell? a=some v∧¬S.wr a.block∧(Φ0.snap a=some v∨n0≤a.block∨a8 Φ0 σ0 a.block)) :
  ∃Φ',Inv Φ' w σ∧dD Φ' tmps fc∧zB A Φ0 σ0 n0 Φ' σ∧(∀k,a8 Φ' σ k↔a8 Φ σ k)∧(∀a v,Φ'.snap a=some v→S.sn a=some v∨Ψ.snap a=some v)∧(∀v m,Rel Ψ v m→Rel Φ' v m)∧w.heap[l]?=some (.loop st)∧Φ'.base≤w.heap.size:=by
 obtain⟨Φ',hΦ⟩:∃Φ':Phi,Φ'={ Φ with snap:=fun a=>match Φ.snap a with|some v=>some v|none=>Ψ.snap a }:=⟨_,rfl⟩
 have hle:Φ.le Φ':=by subst hΦ;exact⟨fun a v q=>by simp[q],fun _ _ q=>q,rfl⟩
 have hobj:Φ'.obj=Φ.obj:=by subst hΦ;rfl
 have hb:Φ'.base=Φ.base:=by subst hΦ;rfl
 have hsn:∀a v,Φ'.snap a=some v→Φ.snap a=some v∨Ψ.snap a=some v:=fun a v q=>by
  subst hΦ
  simp only at q
  cases e:Φ.snap a with
  | none=>rw[e] at q;exact .inr q
  | some u=>rw[e] at q;exact .inl q
 have hwr:∀k,a8 Φ σ k→w.heap[k]?=S.w.heap[k]?:=fun k hk=>ha.same k ((h.wr k).2 (.inl hk))
 have hown:∀k,a8 Φ' σ k↔a8 Φ σ k:=fun k=>by unfold a8;rw[hobj]
 refine⟨Φ',⟨fun l' o hl=>(h.inv.own l' o hl).mono hle fun p R h1 h2=>hwr R ⟨l',o,p,hl,h1,h2⟩,fun a b o o' p p' R h1 h2 h3 h4=>?_,fun a v q=>?_,fun l' o p R a v h1 h2 h3 q=>?_,?_⟩,h.frame.mono hle,⟨h.step.le.trans hle,fun a v q=>?_,h.step.locs,fun R hR=>h.step.ownd R ((hown R).1 hR)⟩,hown,fun a v q=>?_,fun v m r=>?_,?_,?_⟩
 ·rw[hobj] at h3 h4;exact h.inv.inj a b o o' p p' R h1 h2 h3 h4
 ·rcases hsn a v q with q|q
  ·exact ha.sn a v (by rw[h.sn a];exact q)
  ·exact(hs a v q).1
 ·rw[hobj] at h2
  rcases hsn a v q with q|q
  ·exact h.inv.apart l' o p R a v h1 h2 h3 q
  ·intro e
   exact(hs a v q).2.1 ((h.wr _).2 (.inl ⟨l',o,p,h1,h2,e ▸ h3⟩))
 ·obtain⟨n,hn⟩:=h.inv.fresh.1.1
  exact⟨⟨⟨n,fun k hk=>by rw[hobj];exact hn k hk⟩,fun k p hk=>h.inv.fresh.1.2 k p (by rw[←hobj];exact hk)⟩,fun g i v q=>hle.snap _ _ (h.inv.fresh.2.1 g i v q),h.inv.fresh.2.2.mono hle.snap⟩
 ·rcases hsn a v q with q|q
  ·exact h.step.snapn a v q
  ·exact(hs a v q).2.2
 ·rcases hsn a v q with q|q
  ·exact .inl (by rw[h.sn a];exact q)
  ·exact .inr q
 ·refine r.Gg (fun a u q=>?_) (fun l' p q=>by rw[ho l'] at q;cases q)
  have h1:=(hs a u q).1
  subst hΦ
  simp only
  cases e:Φ.snap a with
  | none=>exact q
  | some u' =>
   have h2:=ha.sn a u' (by rw[h.sn a];exact e)
   rw[h1] at h2
   simpa using h2.symm
 ·rw[ha.same l ((h.wr l).2 (.inr rfl))];exact h.lrec
 ·rw[hb];exact Nat.le_trans h.base ha.size
end
end Go.Proofs.YtppdgejjmhdjhaaGreatDoor
