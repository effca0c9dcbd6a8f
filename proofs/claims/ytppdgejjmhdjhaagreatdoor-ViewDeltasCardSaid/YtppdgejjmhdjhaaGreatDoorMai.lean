/- Parts of the proof; conditions: as its theorems name them. -/
import Derived.Test.YtppdgejjmhdjhaaGreatDoorMag
import Derived.Test.YtppdgejjmhdjhaaGreatDoorMah
import Derived.Conc.MuLone
import Derived.Test.YtppdgejjmhdjhaaGreatDoorRows
import Derived.Conc.MuLib
import Derived.KernelRfl
set_option linter.unusedVariables false
set_option linter.unusedSimpArgs false
set_option maxHeartbeats 8000000
set_option maxRecDepth 100000
namespace Go.Proofs.YtppdgejjmhdjhaaGreatDoor
section
theorem Sfx.get{bs:BL}{r:RD}(h:Sfx bs r){i:Nat}(hi:i<r.l.length):bs.getD (bs.length - r.l.length+i) 0=r.l.getD i 0:=by
 have:=h.drop
 rw[←this,List.getD_eq_getElem?_getD,List.getD_eq_getElem?_getD,List.getElem?_drop,this]
end

section
class Few (bs:BL):Prop where
 h:bs.length≤1000000
end

section
set_option maxHeartbeats 4000000 in
theorem lH (p:PA):aA Tryz.prog 164 [.agg p.c] St.none (fun r _=>r=.int .i64 (bI p)):=by
 refine aA.bS (mB 52 [.tmp 2] Tryz.func164 ?_)
 have hm:=uF p.mask
 have hl:=sN p.mask
 have hmt:=p.mask.toNat_lt
 have hlt:=p.lab.toNat_lt
 by_cases h0:p.mask.toNat=0∨511<p.mask.toNat
 ·have e:bI p=11:=by unfold bI;rw[if_pos h0]
  rw[e]
  repeat' first|(with_reducible first|refine up hm ?_|refine up hl ?_)|(refine wM ?_;(first|(have _:=nl1)|(intro nl1));intros)|(refine wY ?_ ?_<;>intro h)|refine wZ3 @Tryz.f164.eq_1 @cP @dP ?_|fail
  all_goals exact lE
 ·by_cases h1:65536≤p.lab.toNat∨p.lab.toNat≠0∧bit p.mask.toNat 8=false
  ·have e:bI p=1:=by unfold bI;rw[if_neg h0,if_pos h1]
   rw[e]
   generalize bit p.mask.toNat 8=b8 at hl h1
   cases b8
   all_goals
    repeat' first|(with_reducible first|refine up hm ?_|refine up hl ?_)|(refine wM ?_;(first|(have _:=nl1)|(intro nl1));intros)|(refine wY ?_ ?_<;>intro h)|refine wZ3 @Tryz.f164.eq_1 @cP @dP ?_|fail
    all_goals first|exact⟨_,St.le_refl _,rfl⟩|exact⟨_,St.le_refl _⟩|(exfalso;simp only[reduceCtorEq,and_false,or_false,and_true] at h1;omega)
  ·have hbad:=fun i=>tY (i:=i) h0 h1
   have hgood:=rW h0 h1
   have h1':p.lab.toNat<65536:=by omega
   have h1'':p.lab.toNat=0∨bit p.mask.toNat 8=true:=by
    cases hb:bit p.mask.toNat 8
    ·rw[hb] at h1;left;simp at h1;omega
    ·right;rfl
   clear h1
   generalize bit p.mask.toNat 8=b8 at hl h1''
   cases b8
   all_goals
    repeat' first|(with_reducible first|refine up hm ?_|refine up hl ?_)|(refine wM ?_;(first|(have _:=nl1)|(intro nl1));intros)|(refine wY ?_ ?_<;>intro h)|refine wZ3 @Tryz.f164.eq_1 @cP @dP ?_|fail
    all_goals try (exfalso;simp only[reduceCtorEq,or_false] at h1'';omega)
    all_goals
     refine aF (α:=Nat) (fun i=>⟨52,[(3,.int .i64 (i:Int)),(1,.ptr nl1 0 0)],[]⟩) (fun _=>St.none.set nl1 (.row 57 26 [p.c])) (fun i=>i≤8∧∀j,j<i→(fF (p.f.get j)&&(decide ((p.f.get j).kd=0) || bit p.mask.toNat j))=true) (fun i=>8 - i) (.of (.less ?_ (St.le_refl _)) ⟨0,rfl,rfl,Nat.zero_le _,fun j h=>absurd h (Nat.not_lt_zero _)⟩) ?_
     ·exact wW
     ·rintro i ⟨hi,hq⟩
      by_cases h8:i<8
      ·have hc:=uJ (p.f.get i).kd (p.f.get i).n (p.f.get i).s
       have hb:=rA p.mask i oM
       have hbad:=hbad i h8
       cases hok:(fF (p.f.get i)&&(decide ((p.f.get i).kd=0) || bit p.mask.toNat i))
       ·rw[hbad hok]
        clear hbad hgood hq
        have eta:(⟨(p.f.get i).kd,(p.f.get i).n,(p.f.get i).s⟩:VA)=p.f.get i:=rfl
        rw[eta] at hc
        cases hv:fF (p.f.get i)<;>rw[hv] at hc hok
        ·repeat' first|(with_reducible first|refine up hc ?_|refine up hb ?_)|refine wZ6 @cP @dP @pI @pK @pJ @tF ?_|fail
         all_goals exact lE
        ·cases hbb:bit p.mask.toNat i<;>rw[hbb] at hb hok
         ·repeat' first|(with_reducible first|refine up hc ?_|refine up hb ?_)|(refine wY ?_ ?_<;>intro h)|refine wZ6 @cP @dP @pI @pK @pJ @tF ?_|fail
          all_goals first|exact⟨_,St.le_refl _,rfl⟩|exact⟨_,St.le_refl _⟩|(exfalso;simp_all)
         ·simp at hok
       ·clear hbad hgood
        have eta:(⟨(p.f.get i).kd,(p.f.get i).n,(p.f.get i).s⟩:VA)=p.f.get i:=rfl
        rw[eta] at hc
        have hok':=hok
        simp only[Bool.and_eq_true,Bool.or_eq_true,decide_eq_true_eq] at hok
        rw[hok.1] at hc
        have hok2:=hok.2
        cases hbb:bit p.mask.toNat i<;>rw[hbb] at hb hok2
        all_goals
         repeat' first|(with_reducible first|refine up hc ?_|refine up hb ?_)|(refine wY ?_ ?_<;>intro h)|refine wZ6 @cP @dP @pI @pK @pJ @tF ?_|fail
         all_goals try (exfalso;simp_all;done)
         all_goals
          refine .of (.less ?_ (St.le_refl _)) ⟨i+1,rfl,rfl,⟨by omega,fun j hj=>?_⟩,by omega⟩
          ·exact wW
          ·by_cases hji:j=i
           ·rw[hji];exact hok'
           ·exact hq j oM
      ·have:i=8:=by omega
       subst this
       rw[hgood hq]
       repeat' first|refine wZ0 ?_|fail
       first|exact⟨_,St.le_refl _,rfl⟩|exact⟨_,St.le_refl _⟩
end

section
theorem wrap32{n:Nat}(h:n<4294967296):IntKind.u32.wrap (n:Int)=(n:Int):=by
 simp only[IntKind.wrap,IntKind.signed,IntKind.bits]
 simp
 omega
theorem Ov(n:Nat)(h:n<32):aA Tryz.prog 234 [.int .i64 (n:Int)] St.none (fun r _=>r=.int .u32 ((2 ^ n:Nat):Int)):=by
 refine(mB 19 [.tmp 2] Tryz.func234 ?_)
 repeat' first|refine wZ1 @Tryz.f234.eq_1 ?_|fail
 refine aF (α:=Nat) (fun i=>⟨19,[(4,.int .i64 (i:Int)),(3,.int .u32 ((2 ^ i:Nat):Int)),(0,.int .i64 (n:Int))],[]⟩) (fun _=>St.none) (fun i=>i≤n) (fun i=>n - i) (.of (.less ?_ (St.le_refl _)) ⟨0,rfl,rfl,Nat.zero_le _⟩) ?_
 ·exact wW
 ·intro i hi
  have hi:i≤n:=hi
  by_cases hlt:i<n
  ·have h2:2 ^ (i+1)<4294967296:=Nat.pow_lt_pow_right (a:=2) (n:=32) (by decide) oM
   have e:IntKind.u32.wrap (((2 ^ i:Nat):Int) * 2)=((2 ^ (i+1):Nat):Int):=by
    rw[show((2 ^ i:Nat):Int) * 2=((2 ^ (i+1):Nat):Int) by rw[Nat.pow_succ];simp]
    exact wrap32 h2
   obtain⟨p,hp⟩:∃p,2 ^ i=p:=⟨_,rfl⟩
   rw[hp] at e ⊢
   repeat' first|refine wZ1 @e ?_|fail
   refine .of (.less (l1:=[(4,.int .i64 ((i+1:Nat):Int)),(3,.int .u32 ((2 ^ (i+1):Nat):Int)),(0,.int .i64 (n:Int))]) ?_ (St.le_refl _)) ⟨i+1,rfl,rfl,by omega,by omega⟩
   obtain⟨q,hq⟩:∃q,2 ^ (i+1)=q:=⟨_,rfl⟩
   rw[hq] at e ⊢
   simp(maxSteps:=4000000) (disch:=first|exact ddL|fail) only[go_sem,simprocAttr,aU,aN,e]
   all_goals rfl
  ·have:i=n:=by omega
   subst this
   obtain⟨p,hp⟩:∃p,2 ^ i=p:=⟨_,rfl⟩
   rw[hp]
   repeat' first|refine wZ0 ?_|exact wC0|fail
theorem Kr(s n:Nat)(h:n<32)(hs:s<2 ^ n):aA Tryz.prog 176 [.int .u32 (s:Int),.int .i64 (n:Int)] St.none (fun r _=>r=.int .u32 ((s ||| 2 ^ n:Nat):Int)):=by
 refine(mB 13 [.tmp 4] Tryz.func176 ?_)
 have h2:2 ^ n≤2147483648:=Nat.pow_le_pow_right (n:=2) (i:=n) (j:=31) (by decide) oM
 have h1:=rD s (n:Int) oM
 rw[FG h,show bit s n=false from Nat.testBit_lt_two_pow hs] at h1
 have h3:=Ov n h
 have e:s ||| 2 ^ n=s+2 ^ n:=by
  have:=Nat.two_pow_add_eq_or_of_lt hs 1
  rw[Nat.mul_one] at this
  rw[Nat.or_comm,←this,Nat.add_comm]
 rw[e]
 have ew:IntKind.u32.wrap ((s:Int)+((2 ^ n:Nat):Int))=((s+2 ^ n:Nat):Int):=by
  rw[show(s:Int)+((2 ^ n:Nat):Int)=((s+2 ^ n:Nat):Int) by simp]
  exact wrap32 oM
 obtain⟨p,hp⟩:∃p,2 ^ n=p:=⟨_,rfl⟩
 rw[hp] at h3 ew ⊢
 repeat' first|(with_reducible first|refine up h1 ?_|refine up h3 ?_)|refine wZ2 @Tryz.f176.eq_1 @ew ?_|exact wC2 @Tryz.f176.eq_1 @ew|fail
 all_goals first|rfl|(refine aJ mixed dK (kn [(234,[.int .i64 (n:Int)],⟨[],fun v=>v=.int .u32 (p:Int),none⟩)]) ?_;repeat' first|(with_reducible refine aH vR h3 ?_)|refine wZ1 @ew ?_|fail;rfl)
end

section
def oY(c:Int):Int:=if 65≤c∧c≤90 then c+32 else c
theorem Ai{c:Int}(h0:0≤c)(h1:c≤255):0≤oY c∧oY c≤255:=by unfold oY;split<;>omega
theorem Ou(c:Int)(h0:0≤c)(h1:c≤255):aA Tryz.prog 304 [.int .u8 c] St.none (fun r _=>r=.int .u8 (oY c)):=by
 refine(mB 12 [.tmp 2] Tryz.func304 ?_)
 by_cases h2:65≤c
 ·by_cases h3:c≤90
  ·rw[show oY c=c+32 from if_pos ⟨h2,h3⟩]
   repeat' first|refine wZ1 @Tryz.f304.eq_1 ?_|exact wC1 @Tryz.f304.eq_1|fail
  ·rw[show oY c=c from if_neg fun h=>h3 h.2]
   repeat' first|refine wZ1 @Tryz.f304.eq_1 ?_|exact wC1 @Tryz.f304.eq_1|fail
 ·rw[show oY c=c from if_neg fun h=>h2 h.1]
  repeat' first|refine wZ1 @Tryz.f304.eq_1 ?_|exact wC1 @Tryz.f304.eq_1|fail
def fch(s:ByteArray)(i:Nat):List (List MV):=[[.int .u8 (oY ((s.toList.getD i 0).toNat:Int))]]
def tH(s:ByteArray):Nat→ByteArray
 | 0=>⟨#[]⟩
 | i+1=>tH s i++bytesOf (fch s i)
def fC(s:ByteArray):ByteArray:=tH s s.size
theorem tB(x:List MV):(bytesOf [x]).size=1:=rfl
theorem sB(s:ByteArray):∀i,(tH s i).size=i
 | 0=>rfl
 | i+1=>by rw[tH,ByteArray.size_append,sB s i,fch,tB]
set_option maxHeartbeats 1000000 in
theorem AR (s:ByteArray) (h:s.size≤1000000):aA Tryz.prog 277 [.str s] St.none (fun r _=>r=.str (fC s)):=by
 refine(mB 20 [.tmp 2] Tryz.func277 ?_)
 repeat' first|refine wZ1 @Tryz.f277.eq_1 ?_|fail
 refine aF (α:=Nat) (fun i=>⟨20,[(4,.int .i64 (i:Int)),(3,.str (tH s i)),(0,.str s)],[]⟩)
  (fun _=>St.none) (fun i=>i≤s.size) (fun i=>s.size - i) (.of (.less ?_ (St.le_refl _)) ⟨0,rfl,rfl,Nat.zero_le _⟩) ?_
 ·simp(maxSteps:=4000000) (disch:=first|exact ddL|fail) only[go_sem,simprocAttr,aU,aN]
  all_goals repeat' first|rfl|exact .same _|refine⟨?_,?_⟩
 ·intro i hi
  have hi:i≤s.size:=hi
  by_cases hlt:i<s.size
  ·have hsz:=sB s i
   have hc0:0≤((s.toList.getD i 0).toNat:Int):=by omega
   have hc1:((s.toList.getD i 0).toNat:Int)≤255:=by have:=(s.toList.getD i 0).toNat_lt;omega
   have hlo:=Ou _ hc0 hc1
   obtain⟨hr0,hr1⟩:=Ai hc0 hc1
   have hf:tH s (i+1)=tH s i++bytesOf (fch s i):=rfl
   have hfc:fch s i=[[.int .u8 (oY ((s.toList.getD i 0).toNat:Int))]]:=rfl
   have hone:=tB [.int .u8 (oY ((s.toList.getD i 0).toNat:Int))]
   rw[hfc] at hf
   obtain⟨c,hc⟩:∃c:Int,((s.toList.getD i 0).toNat:Int)=c:=⟨_,rfl⟩
   rw[hc] at hlo hr0 hr1 hf hone hc0 hc1
   repeat' first|(with_reducible refine aC hlo ?_)|(refine wO ?_;intros)|simp(maxSteps:=4000000) (disch:=first|exact ddL|fail) only[go_sem,simprocAttr,hc,hsz,hone,isByte]|fail
   refine .of (.less ?_ (St.none_le _)) ⟨i+1,rfl,rfl,by omega,by omega⟩
   rw[hf]
   exact wW
  ·have hie:i=s.size:=by omega
   subst hie
   repeat' first|refine wZ0 ?_|fail
   rfl
def kV(a b:VA):Bool:=decide (a.kd=b.kd)&&(decide (a.kd=1) || decide (a.kd=2))&&decide (oJ (cmpL a.key b.key)<0)
set_option maxHeartbeats 1000000 in
theorem x8 (a b:VA) (ha:a.s.size≤1000000) (hb:b.s.size≤1000000):aA Tryz.prog 232 [.agg a.c,.agg b.c] St.none (fun r _=>r=.bool (kV a b)):=by
 refine(mB 26 [.tmp 4] Tryz.func232 ?_)
 have h1:=AY a b ha hb
 have hd:kV a b=(decide (a.kd=b.kd)&&(decide (a.kd=1) || decide (a.kd=2))&&decide (oJ (cmpL a.key b.key)<0)):=rfl
 generalize oJ (cmpL a.key b.key)=o at h1 hd
 generalize kV a b=out at hd ⊢
 by_cases e1:a.kd=b.kd
 ·by_cases e2:a.kd=1
  ·rw[decide_eq_true e1,decide_eq_true e2,Bool.true_or,Bool.true_and,Bool.true_and] at hd
   subst hd
   repeat' first|(with_reducible first|refine up h1 ?_)|(refine wO ?_;intros)|refine wZ1 @Tryz.f232.eq_1 ?_|exact wC1 @Tryz.f232.eq_1|fail
  ·by_cases e3:a.kd=2
   ·rw[decide_eq_true e1,decide_eq_true e3,Bool.or_true,Bool.true_and,Bool.true_and] at hd
    subst hd
    repeat' first|(with_reducible first|refine up h1 ?_)|(refine wO ?_;intros)|refine wZ1 @Tryz.f232.eq_1 ?_|exact wC1 @Tryz.f232.eq_1|fail
   ·rw[decide_eq_false e2,decide_eq_false e3,Bool.or_false,Bool.and_false,Bool.false_and] at hd
    subst hd
    repeat' first|(with_reducible first|refine up h1 ?_)|(refine wO ?_;intros)|refine wZ1 @Tryz.f232.eq_1 ?_|exact wC1 @Tryz.f232.eq_1|fail
 ·rw[decide_eq_false e1,Bool.false_and,Bool.false_and] at hd
  subst hd
  repeat' first|(with_reducible first|refine up h1 ?_)|(refine wO ?_;intros)|refine wZ1 @Tryz.f232.eq_1 ?_|exact wC1 @Tryz.f232.eq_1|fail
def rV(A B:ByteArray):Bool:=(List.range (A.size+1 - B.size)).any fun i=>decide (A.extract i (i+B.size)=B)
def lT(a b:VA):Bool:=decide (a.kd=2)&&decide (b.kd=2)&&rV (fC a.s) (fC b.s)
theorem sA(s:ByteArray):(fC s).size=s.size:=sB s s.size
set_option maxHeartbeats 1000000 in
theorem EJ (a b:VA) (ha:a.s.size≤1000000) (hb:b.s.size≤1000000):aA Tryz.prog 233 [.agg a.c,.agg b.c] St.none (fun r _=>r=.bool (lT a b)):=by
 refine(mB 40 [.tmp 4] Tryz.func233 ?_)
 have h1:=AR a.s ha
 have h2:=AR b.s hb
 have hd:lT a b=(decide (a.kd=2)&&decide (b.kd=2)&&rV (fC a.s) (fC b.s)):=rfl
 have s1:=sA a.s
 have s2:=sA b.s
 generalize lT a b=out at hd ⊢
 by_cases e1:a.kd=2
 ·by_cases e2:b.kd=2
  ·rw[decide_eq_true e1,decide_eq_true e2,Bool.true_and,Bool.true_and] at hd
   obtain⟨C,hC⟩:∃C,C=kn [(277,[.str a.s],⟨[],fun v=>v=.str (fC a.s),none⟩),(277,[.str b.s],⟨[],fun v=>v=.str (fC b.s),none⟩)]:=⟨_,rfl⟩
   have f1:C 277 [.str a.s]=some ⟨[],fun v=>v=.str (fC a.s),none⟩:=by rw[hC];exact vR
   have f2:C 277 [.str b.s]=some ⟨[],fun v=>v=.str (fC b.s),none⟩:=by
    rw[hC]
    refine Li (fun h=>?_) vR
    have h:=h.2
    simp only[List.cons.injEq,MV.str.injEq,and_true] at h
    rw[h]
   clear hC
   generalize fC a.s=A at h1 hd s1 f1
   generalize fC b.s=B at h2 hd s2 f2
   subst hd
   repeat' first|(refine wO ?_;intros)|refine wZ1 @Tryz.f233.eq_1 ?_|fail
   refine aJ mixed dK C ?_
   repeat' first|(with_reducible refine aH f1 h1 ?_)|(with_reducible refine aH f2 h2 ?_)|refine wZ0 ?_|fail
   refine aF (α:=Nat) (fun i=>⟨40,[(7,.int .i64 (i:Int)),(6,.str B),(5,.str A)],[]⟩)
    (fun _=>St.none) (fun i=>i≤A.size+1∧∀j,j<i→j+B.size≤A.size→A.extract j (j+B.size)≠B) (fun i=>A.size+1 - i) (.of (.less ?_ (St.none_le _)) ⟨0,rfl,rfl,Nat.zero_le _,fun j hj=>absurd hj oM⟩) ?_
   ·exact wW
   ·rintro i ⟨hi,hq⟩
    by_cases hlt:i+B.size≤A.size
    ·have e1:((i:Int)+(B.size:Int)).toNat=i+B.size:=by omega
     have e2:((i:Int)).toNat=i:=by omega
     repeat' first|(refine wY ?_ ?_<;>intro h)|refine wZ2 @e1 @e2 ?_|fail
     ·refine(List.any_eq_true.2 ⟨i,List.mem_range.2 oM,?_⟩).symm
      exact decide_eq_true h
     ·refine .of (.less ?_ (St.none_le _)) ⟨i+1,rfl,rfl,⟨by omega,fun j hj hjl=>?_⟩,by omega⟩
      ·exact wW
      ·by_cases hji:j=i
       ·subst hji;exact h
       ·exact hq j oM hjl
    ·have hF:rV A B=false:=by
      rw[rV,List.any_eq_false]
      intro j hj
      rw[List.mem_range] at hj
      have:=hq j oM oM
      simpa using this
     rw[hF]
     repeat' first|refine wZ0 ?_|exact wC0|fail
  ·rw[decide_eq_false e2,Bool.and_false,Bool.false_and] at hd
   subst hd
   repeat' first|(refine wO ?_;intros)|refine wZ1 @Tryz.f233.eq_1 ?_|exact wC1 @Tryz.f233.eq_1|fail
 ·rw[decide_eq_false e1,Bool.false_and,Bool.false_and] at hd
  subst hd
  repeat' first|(refine wO ?_;intros)|refine wZ1 @Tryz.f233.eq_1 ?_|exact wC1 @Tryz.f233.eq_1|fail
end

section
theorem SK(s n:Nat):(s &&& 2 ^ n=0)=(s / 2 ^ n % 2=0):=by
 apply propext
 have h:s &&& 2 ^ n=2 ^ n * (s / 2 ^ n % 2):=by
  refine Nat.eq_of_testBit_eq fun i=>?_
  rw[Nat.testBit_and,Nat.testBit_two_pow]
  by_cases hi:n=i
  ·subst hi
   rcases Nat.mod_two_eq_zero_or_one (s / 2 ^ n) with h|h
   ·rw[h,Nat.mul_zero,Nat.zero_testBit]
    have:s.testBit n=false:=by rw[Nat.testBit_eq_decide_div_mod_eq,h];rfl
    rw[this];rfl
   ·rw[h,Nat.mul_one,Nat.testBit_two_pow_self]
    have:s.testBit n=true:=by rw[Nat.testBit_eq_decide_div_mod_eq,h];rfl
    rw[this];simp
  ·rw[decide_eq_false hi,Bool.and_false]
   rcases Nat.mod_two_eq_zero_or_one (s / 2 ^ n) with h|h
   ·rw[h,Nat.mul_zero,Nat.zero_testBit]
   ·rw[h,Nat.mul_one,Nat.testBit_two_pow_of_ne hi]
 rw[h,Nat.mul_eq_zero]
 have:=Nat.pos_of_ne_zero (n:=2 ^ n) (Nat.ne_of_gt (Nat.two_pow_pos n))
 constructor
 ·rintro(h|h)
  ·omega
  ·exact h
 ·exact .inr
theorem AG(s n:Nat)(hs:s<4294967296)(hn:n<32):aA Tryz.prog 253 [.int .u32 (s:Int),.int .i64 (n:Int)] St.none (fun r _=>r=.bool (hasB s n)):=by
 refine(mB 10 [.tmp 4] Tryz.func253 ?_)
 have h:=CW n hn
 have ha:=E5 s (2 ^ n) hs (Nat.pow_lt_pow_right (a:=2) (n:=32) (by decide) hn)
 have hb:=SK s n
 have e:hasB s n=!decide (s &&& 2 ^ n=0):=by
  unfold hasB
  have h2:((n:Int)).toNat=n:=by simp
  have h3:0≤(n:Int)∧(n:Int)≤31:=by omega
  rcases Nat.mod_two_eq_zero_or_one (s / 2 ^ n) with h|h
  ·have h4:s &&& 2 ^ n=0:=by rw[hb];exact h
   simp[h4,h]
  ·have h4:¬(s &&& 2 ^ n=0):=by rw[hb];omega
   simp[h4,h]
   omega
 rw[e]
 generalize s &&& 2 ^ n=x at ha ⊢
 generalize ((2 ^ n:Nat):Int)=y at h ha
 repeat' first|(with_reducible first|refine up h ?_)|refine wZ2 @Tryz.f253.eq_1 @ha ?_|fail
 all_goals first|(simp;done)|(by_cases hx:x=0<;>simp[hx])
theorem xT(a b:VA):aA Tryz.prog 258 [.agg a.c,.agg b.c] St.none (fun r _=>r=.bool (kV a b)):=by
 refine aA.bS (mB 24 [.tmp 4] Tryz.func258 ?_)
 have h1:=B4 a b
 have hd:kV a b=(decide (a.kd=b.kd)&&(decide (a.kd=1) || decide (a.kd=2))&&decide (oJ (cmpL a.key b.key)<0)):=rfl
 generalize oJ (cmpL a.key b.key)=o at h1 hd
 generalize kV a b=out at hd ⊢
 by_cases e1:a.kd=b.kd
 ·by_cases e2:a.kd=1
  ·rw[decide_eq_true e1,decide_eq_true e2,Bool.true_or,Bool.true_and,Bool.true_and] at hd
   subst hd
   repeat' first|(with_reducible first|refine up h1 ?_)|(refine wO ?_;intros)|refine wZ1 @Tryz.f258.eq_1 ?_|fail
   all_goals exact lE
  ·by_cases e3:a.kd=2
   ·rw[decide_eq_true e1,decide_eq_true e3,Bool.or_true,Bool.true_and,Bool.true_and] at hd
    subst hd
    repeat' first|(with_reducible first|refine up h1 ?_)|(refine wO ?_;intros)|refine wZ1 @Tryz.f258.eq_1 ?_|fail
    all_goals exact lE
   ·rw[decide_eq_false e2,decide_eq_false e3,Bool.or_false,Bool.and_false,Bool.false_and] at hd
    subst hd
    repeat' first|(with_reducible first|refine up h1 ?_)|(refine wO ?_;intros)|refine wZ1 @Tryz.f258.eq_1 ?_|fail
    all_goals exact lE
 ·rw[decide_eq_false e1,Bool.false_and,Bool.false_and] at hd
  subst hd
  repeat' first|(with_reducible first|refine up h1 ?_)|(refine wO ?_;intros)|refine wZ1 @Tryz.f258.eq_1 ?_|fail
  all_goals exact lE
def oQ(s:ByteArray)(i:Nat):List (List MV):=(s.toList.take i).map (fun c=>[.int .u8 (oY (c.toNat:Int))])++(s.toList.drop i).map (fun c=>[.int .u8 (c.toNat:Int)])
theorem xA(s:ByteArray):s.toList.length=s.size:=by
 rw[ByteArray.toList_eq,Array.length_toList]
 rfl
theorem RH(s:ByteArray){i:Nat}(h:i≤s.size):(oQ s i).length=s.size:=by
 have:=xA s
 simp[oQ]
 omega
theorem Ue{s:ByteArray}{i:Nat}(h:i<s.size):(oQ s i).getD i []=[.int .u8 ((s.toList.getD i 0).toNat:Int)]:=by
 have hl:i<s.toList.length:=by rw[xA];exact h
 unfold oQ
 rw[List.getD_eq_getElem?_getD,List.getElem?_append_right (by simp;omega)]
 simp[Nat.min_eq_left (Nat.le_of_lt hl),List.getElem?_eq_getElem hl,List.getD_eq_getElem?_getD]
theorem RI{s:ByteArray}{i:Nat}(h:i<s.size):(oQ s i).set i [.int .u8 (oY ((s.toList.getD i 0).toNat:Int))]=oQ s (i+1):=by
 have hl:i<s.toList.length:=by rw[xA];exact h
 have e1:s.toList.drop i=s.toList[i]::s.toList.drop (i+1):=List.drop_eq_getElem_cons hl
 have e2:s.toList.take (i+1)=s.toList.take i++[s.toList[i]]:=List.take_succ_eq_append_getElem hl
 unfold oQ
 rw[e1,e2,b9 0 hl,List.set_append_right _ _ (by rw[List.length_map,List.length_take];omega)]
 rw[List.map_cons,List.length_map,List.length_take,Nat.min_eq_left (Nat.le_of_lt hl),Nat.sub_self,List.set_cons_zero,List.map_append,List.map_cons,List.map_nil,List.append_assoc]
 rfl
theorem RP{l:List (List MV)}{i:Nat}(h:i<l.length){x:List MV}(hx:l.getD i []=x):l.set i x=l:=by
 subst hx
 rw[List.getD_eq_getElem?_getD,List.getElem?_eq_getElem h]
 exact List.set_getElem_self h
theorem Cn(s:ByteArray):∀i,i≤s.size→tH s i=bytesOf ((s.toList.take i).map (fun c=>[.int .u8 (oY (c.toNat:Int))]))
 | 0,_=>rfl
 | i+1,h=>by
  have hl:i<s.toList.length:=by rw[xA];omega
  rw[tH,Cn s i oM,List.take_succ_eq_append_getElem hl,List.map_append,fch,b9 0 hl]
  unfold bytesOf
  exact ByteArray.ext (by rw[ByteArray.data_append];simp)
theorem MD(s:ByteArray):bytesOf (oQ s s.size)=fC s:=by
 rw[fC,Cn s s.size (Nat.le_refl _),oQ,←xA,List.drop_length,List.map_nil,List.append_nil]
theorem Ow(s:ByteArray):(oQ s s.size).all isByte=true:=by
 rw[List.all_eq_true]
 intro x hx
 unfold oQ at hx
 rw[←xA,List.drop_length,List.map_nil,List.append_nil] at hx
 obtain⟨b,_,rfl⟩:=List.mem_map.1 hx
 have:=Ai (c:=(b.toNat:Int)) oM (by have:=b.toNat_lt;omega)
 simp[isByte,this]
theorem AI(s:ByteArray)(h:s.size≤1000000):aA Tryz.prog 297 [.str s] St.none (fun r _=>r=.str (fC s)):=by
 refine aA.bS (mB 30 [.tmp 2] Tryz.func297 ?_)
 repeat' first|(refine wM ?_;(first|(have _:=nl1)|(intro nl1));intros)|refine wZ1 @Tryz.f297.eq_1 ?_|fail
 refine aF (α:=Nat) (fun i=>⟨30,[(10,.int .i64 (i:Int)),(9,.int .i64 (s.size:Int)),(8,.vec 1 nl1 0 s.size),(3,.vec 1 nl1 0 s.size)],[]⟩)
  (fun i=>St.none.set nl1 (.row 5 1 (oQ s i))) (fun i=>i≤s.size) (fun i=>s.size - i) ?_ ?_
 ·refine .of (.less ?_ (St.aB (St.none_le _) (by simp[St.set,oQ]))) ⟨0,rfl,rfl,Nat.zero_le _⟩
  exact wW
 ·intro i hi
  have hi:i≤s.size:=hi
  have hrl:=RH s hi
  by_cases hlt:i<s.size
  ·have hat:=Ue hlt
   have hset:=RI hlt
   have hc0:0≤((s.toList.getD i 0).toNat:Int):=by omega
   have hc1:((s.toList.getD i 0).toNat:Int)≤255:=by have:=(s.toList.getD i 0).toNat_lt;omega
   obtain⟨c,hc⟩:∃c:Int,((s.toList.getD i 0).toNat:Int)=c:=⟨_,rfl⟩
   rw[hc] at hc0 hc1 hat hset
   have hsame:oY c=c→(oQ s i)=oQ s (i+1):=fun e=>by rw[←hset,e,RP (by rw[hrl];exact hlt) hat]
   by_cases hcc:65≤c∧c≤90
   ·obtain⟨g1,g2⟩:=hcc
    have e:oY c=c+97 - 65:=by unfold oY;rw[if_pos ⟨g1,g2⟩];omega
    rw[e] at hset
    repeat' first|refine wZ4 @hat @hrl @g1 @g2 ?_|fail
    refine .of (.less ?_ (σ1:=St.none.set nl1 (.row 5 1 (oQ s (i+1)))) (by rw[hset];exact St.le_refl _)) ⟨i+1,rfl,rfl,by omega,by omega⟩
    exact wW
   ·have e:oY c=c:=by unfold oY;rw[if_neg hcc]
    have hs':=hsame e
    repeat' first|(refine wY ?_ ?_<;>intro h)|refine wZ2 @hat @hrl ?_|fail
    all_goals first
     | (exfalso;omega)
     | refine .of (.less ?_ (σ1:=St.none.set nl1 (.row 5 1 (oQ s (i+1)))) (by rw[hs'];exact St.le_refl _)) ⟨i+1,rfl,rfl,by omega,by omega⟩
    all_goals
     exact wW
  ·have:i=s.size:=by omega
   subst this
   have hfb:=Ow s
   have hfs:=MD s
   have htk:(oQ s s.size).take s.size=oQ s s.size:=List.take_of_length_le (by rw[hrl];exact Nat.le_refl _)
   repeat' first|refine wZ4 @hrl @hfb @hfs @htk ?_|fail
   all_goals exact lE
end

section
theorem half(i j:Nat):Int.fdiv ((i:Int)+j) (2 ^ (min 1 64:Nat))=(((i+j) / 2:Nat):Int):=by
 rw[show((2:Int) ^ (min 1 64:Nat))=2 by decide,Int.fdiv_eq_ediv_of_nonneg _ oM]
 omega
end

section
theorem sX{v:VA}(h:fF v=true):v.s.size≤1000000:=by
 unfold fF at h
 split at h
 ·simp only[decide_eq_true_eq] at h
  rw[h];decide
 ·split at h
  ·simp only[decide_eq_true_eq] at h
   rw[h.2.2];decide
  ·split at h
   ·simp only[decide_eq_true_eq] at h
    omega
   ·cases h
theorem CP{x:ND}(h:fM x=true):x.v.s.size≤1000000:=by
 have h0:va0.s.size≤1000000:=by decide
 unfold fM at h
 split at h
 ·simp only[decide_eq_true_eq] at h;rw[h.2];exact h0
 ·split at h
  ·simp only[decide_eq_true_eq] at h;rw[h.2.2];exact h0
  ·split at h
   ·simp only[decide_eq_true_eq] at h;rw[h.2.2];exact h0
   ·split at h
    ·simp only[decide_eq_true_eq] at h;exact sX h.2.2.1
    ·split at h
     ·simp only[decide_eq_true_eq] at h;exact sX h.2.2.1
     ·cases h
end

section
theorem TZ{x y:ND}(h:x.c=y.c):x=y:=by
 obtain⟨a,b,c,d,e⟩:=x
 obtain⟨a',b',c',d',e'⟩:=y
 simp only[ND.c,List.cons.injEq,MV.int.injEq,MV.str.injEq,true_and,and_true] at h
 obtain⟨rfl,rfl,rfl,rfl,rfl⟩:=h
 rfl
theorem GQ:∀{l m:List ND},l.map ND.c=m.map ND.c→l=m
 | [],[],_=>rfl
 | [],_::_,h=>by simp at h
 | _::_,[],h=>by simp at h
 | x::l,y::m,h=>by
  rw[List.map_cons,List.map_cons,List.cons.injEq] at h
  rw[TZ h.1,GQ h.2]
end

section
open Go.Conc.Locks
section
variable {P:Program} {L:MuLink}
def Vw(n n':Int)(o:Option aT)(l:Nat)(σ:St)(k:MV→St→Prop):Prop:=match o with
 | some (.row t e [.int .i32 a::rest])=>fY (a=n) (bT (.tup []) (σ.set l (.row t e [.int .i32 n'::rest])) k)
 | _=>False
theorem Ju{n n' a:Int}{l:Nat}{σ:St}{k:MV→St→Prop}{t:TypeId}{e:Nat}{rest:List MV}:R (Vw n n' (some (.row t e [.int .i32 a::rest])) l σ k)=R (fY (E (a=n)) (bT (.tup []) (σ.set l (.row t e [.int .i32 n'::rest])) k)):=rfl
end
attribute [go_sem] Ju
end

section
abbrev mu:Go.Conc.Locks.MuLink:={ lock:=248,unlock:=249,ilock:=291,iunlock:=292,lockSlow:=314,unlockSlow:=317,disable:=310,enable:=312,acquire:=313,relMerge:=315,cas32:=311,add32:=316,tMutex:=186,tIMutex:=184,tPMutex:=320,tPIMutex:=334,tPI32:=336,tUP:=338,tNoCopy:=179,tU32:=23 }
theorem QK:Go.Conc.Locks.MuLib Tryz.prog mu :=
  ⟨Tryz.func248,Tryz.func249,Tryz.func291,Tryz.func292,Tryz.func310,Tryz.func312,Tryz.func313,Tryz.func315,Tryz.func311,Tryz.func316,Tryz.underlying184,Tryz.runUnderlying184,Tryz.sizeOf184,Tryz.isAgg184,Tryz.zeroValue184,Tryz.underlying186,Tryz.runUnderlying186,Tryz.sizeOf186,Tryz.isAgg186,Tryz.zeroValue186,Tryz.underlying320,Tryz.runUnderlying320,Tryz.sizeOf320,Tryz.isAgg320,Tryz.zeroValue320,Tryz.underlying334,Tryz.runUnderlying334,Tryz.sizeOf334,Tryz.isAgg334,Tryz.zeroValue334,Tryz.underlying336,Tryz.runUnderlying336,Tryz.sizeOf336,Tryz.isAgg336,Tryz.zeroValue336,Tryz.underlying338,Tryz.runUnderlying338,Tryz.sizeOf338,Tryz.isAgg338,Tryz.zeroValue338,Tryz.underlying179,Tryz.runUnderlying179,Tryz.sizeOf179,Tryz.isAgg179,Tryz.zeroValue179,Tryz.underlying21,Tryz.runUnderlying21,Tryz.sizeOf21,Tryz.isAgg21,Tryz.zeroValue21,(by kernel_rfl)⟩
end
end Go.Proofs.YtppdgejjmhdjhaaGreatDoor
