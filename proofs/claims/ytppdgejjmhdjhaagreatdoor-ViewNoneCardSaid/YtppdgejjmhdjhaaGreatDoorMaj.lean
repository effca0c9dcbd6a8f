/- Parts of the proof, joined; conditions: those that its theorems name. -/
import Derived.Test.YtppdgejjmhdjhaaGreatDoorMai
set_option linter.unusedVariables false
set_option linter.unusedSimpArgs false
set_option maxHeartbeats 4000000
namespace Go.Proofs.YtppdgejjmhdjhaaGreatDoor
set_option maxRecDepth 100000
set_option maxHeartbeats 4000000
theorem KK(n:Nat):((n:Int)).fdiv (2 ^ min 16 32)=((n / 65536:Nat):Int):=by
 rw[show(2:Int) ^ min 16 32=65536 by decide,Int.fdiv_eq_ediv_of_nonneg _ (by decide)]
 omega
theorem G0:dG Tryz.prog 54=true:=by decide +kernel
theorem DQ(a b:VA):bK Tryz.prog 54 .neq (.agg a.c) (.agg b.c)=some (True,.bool (!decide (a=b))):=F1 (Cv 4 a b) G0
theorem I8(m:UInt32)(i:Nat)(h:i<8):iW .u32 ((m.toNat:Int).fdiv (2 ^ min i 32)) 1=if bit m.toNat i=true then 1 else 0:=by
 rw[Nat.min_eq_left (by omega),show(2:Int) ^ i=((2 ^ i:Nat):Int) by simp,Int.fdiv_eq_ediv_of_nonneg _ (Int.natCast_nonneg _)]
 rw[show(m.toNat:Int) / ((2 ^ i:Nat):Int)=((m.toNat / 2 ^ i:Nat):Int) by simp]
 have hm:=m.toNat_lt
 have e:iW .u32 ((m.toNat / 2 ^ i:Nat):Int) 1=_:=vW (m.toNat / 2 ^ i) 1 (Nat.lt_of_le_of_lt (Nat.div_le_self _ _) hm) (by decide)
 rw[e,Nat.and_one_is_mod]
 unfold bit
 rw[Nat.testBit_eq_decide_div_mod_eq]
 have:=Nat.mod_two_eq_zero_or_one (m.toNat / 2 ^ i)
 rcases this with h|h<;>rw[h]<;>rfl
theorem jI(p:PA):aA Tryz.prog 141 [.agg p.c] St.none (fun r _=>r=.int .i64 (bP p)):=by
 refine aA.dF (aA.body 55 [.tmp 2] Tryz.func141 rfl rfl rfl rfl ?_)
 have hm:=mO p.mask
 have hl:=lS p.mask
 have hmt:=p.mask.toNat_lt
 have hlt:=p.lab.toNat_lt
 have hsh:=KK p.lab.toNat
 by_cases h0:p.mask.toNat=0∨511<p.mask.toNat
 ·have e:bP p=11:=by unfold bP;rw[if_pos h0]
  rw[e]
  repeat' (first|(with_reducible first|refine up hm ?_|refine up hl ?_)|(with_reducible first|(refine wT ?_;(first|((fail_if_success (have:=nl1));refine wN fun nl1 hnl=>?_)|refine wN fun _ hnl=>?_);revert hnl;(repeat refine wS fun _ _=>?_);intro hnl)|refine wE ?_|(refine wK ?_ ?_<;>intro h)|(refine wB ?_ ?_<;>intro h<;>simp only[h]))|simp(maxSteps:=4000000) (disch:=first|decide|assumption|omega|(simp only[wL];omega)) only[go_sem,simprocAttr,Tryz.f141,cG,eL])
  all_goals first|exact⟨_,St.le_refl _,rfl⟩|exact⟨_,St.le_refl _⟩|(exfalso;omega)
 ·by_cases h1:65536≤p.lab.toNat∨p.lab.toNat≠0∧bit p.mask.toNat 8=false
  ·have e:bP p=1:=by unfold bP;rw[if_neg h0,if_pos h1]
   rw[e]
   generalize bit p.mask.toNat 8=b8 at hl h1
   cases b8
   all_goals
    repeat' (first|(with_reducible first|refine up hm ?_|refine up hl ?_)|(with_reducible first|(refine wT ?_;(first|((fail_if_success (have:=nl1));refine wN fun nl1 hnl=>?_)|refine wN fun _ hnl=>?_);revert hnl;(repeat refine wS fun _ _=>?_);intro hnl)|refine wE ?_|(refine wK ?_ ?_<;>intro h)|(refine wB ?_ ?_<;>intro h<;>simp only[h]))|simp(maxSteps:=4000000) (disch:=first|decide|assumption|omega|(simp only[wL];omega)) only[go_sem,simprocAttr,Tryz.f141,cG,eL,hsh])
    all_goals first|exact⟨_,St.le_refl _,rfl⟩|exact⟨_,St.le_refl _⟩|(exfalso;simp only[reduceCtorEq,and_false,or_false,and_true] at h1;omega)
  ·have hbad:=fun i=>vA (i:=i) h0 h1
   have hgood:=r9 h0 h1
   have h1':p.lab.toNat<65536:=by omega
   have h1'':p.lab.toNat=0∨bit p.mask.toNat 8=true:=by
    cases hb:bit p.mask.toNat 8
    ·rw[hb] at h1;left;simp at h1;omega
    ·right;rfl
   clear h1
   generalize bit p.mask.toNat 8=b8 at hl h1''
   cases b8
   all_goals
    repeat' (first|(with_reducible first|refine up hm ?_|refine up hl ?_)|(with_reducible first|(refine wT ?_;(first|((fail_if_success (have:=nl1));refine wN fun nl1 hnl=>?_)|refine wN fun _ hnl=>?_);revert hnl;(repeat refine wS fun _ _=>?_);intro hnl)|refine wE ?_|(refine wK ?_ ?_<;>intro h)|(refine wB ?_ ?_<;>intro h<;>simp only[h]))|simp(maxSteps:=4000000) (disch:=first|decide|assumption|omega|(simp only[wL];omega)) only[go_sem,simprocAttr,Tryz.f141,cG,eL,gR,hsh])
    all_goals try (exfalso;simp only[reduceCtorEq,or_false] at h1'';omega)
    all_goals
     refine aV (α:=Nat) (fun i=>⟨55,[(33,.int .i64 (i:Int)),(32,.agg (fc p.f)),(1,.ptr nl1 0 0)],[]⟩) (fun _=>St.none.set nl1 (.row 57 26 [p.c])) (fun i=>i≤8∧∀j,j<i→(fF (p.f.get j)&&(decide ((p.f.get j).kd=0) || bit p.mask.toNat j))=true) (fun i=>8 - i) (.of (.less ?_ (St.le_refl _)) ⟨0,rfl,rfl,Nat.zero_le _,fun j h=>absurd h (Nat.not_lt_zero _)⟩) ?_
     ·simp(maxSteps:=4000000) (disch:=first|decide|assumption|omega|(simp only[wL];omega)) only[go_sem,simprocAttr,aJ,aG]
      all_goals rfl
     ·rintro i ⟨hi,hq⟩
      by_cases h8:i<8
      ·have hc:=oR (p.f.get i).kd (p.f.get i).n (p.f.get i).s
       have hbad:=hbad i h8
       have hsb:=I8 p.mask i h8
       have hv:bK Tryz.prog 54 .neq (.agg (p.f.get i).c) (.agg [.int .i64 0,.int .i64 0,.str ⟨#[]⟩])=some (True,.bool (!decide (p.f.get i=va0))):=DQ (p.f.get i) va0
       have hz:fF (p.f.get i)=true→decide (p.f.get i=va0)=decide ((p.f.get i).kd=0):=fun hok=>by
        refine decide_eq_decide.mpr ⟨fun h=>by rw[h];rfl,fun h=>Ji hok h⟩
       obtain⟨x,hx⟩:∃x,p.f.get i=x:=⟨_,rfl⟩
       have hat:=oC (f:=p.f) h8
       rw[hx] at hc hbad hv hz hat
       obtain⟨bx,hbx⟩:∃b,bit p.mask.toNat i=b:=⟨_,rfl⟩
       rw[hbx] at hbad hsb
       cases hok:fF x<;>(have hc:aA Tryz.prog 211 [.agg x.c] St.none (fun r _=>r=.bool (fF x)):=hc)<;>rw[hok] at hc hbad hz
       ·rw[hbad (Bool.false_and _)]
        clear hbad hgood hq hz
        repeat' (first|(with_reducible first|refine up hc ?_)|(with_reducible first|(refine wT ?_;(first|((fail_if_success (have:=nl1));refine wN fun nl1 hnl=>?_)|refine wN fun _ hnl=>?_);revert hnl;(repeat refine wS fun _ _=>?_);intro hnl)|refine wE ?_|(refine wK ?_ ?_<;>intro h)|(refine wB ?_ ?_<;>intro h<;>simp only[h]))|simp(maxSteps:=4000000) (disch:=first|decide|assumption|omega|(simp only[wL];omega)) only[go_sem,simprocAttr,cG,eL,gR,hat])
        all_goals first|exact⟨_,St.le_refl _,rfl⟩|exact⟨_,St.le_refl _⟩
       ·rw[hz rfl] at hv
        obtain⟨bk,hbk⟩:∃b,decide (x.kd=0)=b:=⟨_,rfl⟩
        rw[hbk] at hv hbad
        cases hgg:(bk || bx)
        ·rw[hbad (by rw[hgg];rfl)]
         clear hbad hgood hq hz
         simp only[Bool.or_eq_false_iff] at hgg
         obtain⟨rfl,rfl⟩:=hgg
         rw[if_neg (by simp)] at hsb
         repeat' (first|(with_reducible first|refine up hc ?_)|(with_reducible first|(refine wT ?_;(first|((fail_if_success (have:=nl1));refine wN fun nl1 hnl=>?_)|refine wN fun _ hnl=>?_);revert hnl;(repeat refine wS fun _ _=>?_);intro hnl)|refine wE ?_|(refine wK ?_ ?_<;>intro h)|(refine wB ?_ ?_<;>intro h<;>simp only[h]))|simp(maxSteps:=4000000) (disch:=first|decide|assumption|omega|(simp only[wL];omega)) only[go_sem,simprocAttr,cG,eL,gR,hat,hv,hsb])
         all_goals first|exact⟨_,St.le_refl _,rfl⟩|exact⟨_,St.le_refl _⟩
        ·clear hbad hgood hz
         have hnext:∀j,j<i+1→(fF (p.f.get j)&&(decide ((p.f.get j).kd=0) || bit p.mask.toNat j))=true:=fun j hj=>by
          by_cases hji:j=i
          ·rw[hji,hx,hok,hbk,hbx,hgg];rfl
          ·exact hq j (by omega)
         clear hq
         cases bk<;>cases bx
         ·simp at hgg
         all_goals
          simp only[if_true,Bool.false_eq_true,if_false] at hsb
          repeat' (first|(with_reducible first|refine up hc ?_)|(with_reducible first|(refine wT ?_;(first|((fail_if_success (have:=nl1));refine wN fun nl1 hnl=>?_)|refine wN fun _ hnl=>?_);revert hnl;(repeat refine wS fun _ _=>?_);intro hnl)|refine wE ?_|(refine wK ?_ ?_<;>intro h)|(refine wB ?_ ?_<;>intro h<;>simp only[h]))|simp(maxSteps:=4000000) (disch:=first|decide|assumption|omega|(simp only[wL];omega)) only[go_sem,simprocAttr,cG,eL,gR,hat,hv,hsb])
          all_goals
           refine .of (.less ?_ (St.aC (St.none_le _) (by simp[St.set, *]))) ⟨i+1,rfl,rfl,⟨by omega,hnext⟩,by omega⟩
           simp(maxSteps:=4000000) (disch:=first|decide|assumption|omega|(simp only[wL];omega)) only[go_sem,simprocAttr,aJ,aG]
           all_goals rfl
      ·have:i=8:=by omega
       subst this
       rw[hgood hq]
       repeat' (first|(with_reducible first|(refine wT ?_;(first|((fail_if_success (have:=nl1));refine wN fun nl1 hnl=>?_)|refine wN fun _ hnl=>?_);revert hnl;(repeat refine wS fun _ _=>?_);intro hnl)|refine wE ?_|(refine wK ?_ ?_<;>intro h)|(refine wB ?_ ?_<;>intro h<;>simp only[h]))|simp(maxSteps:=4000000) (disch:=first|decide|assumption|omega|(simp only[wL];omega)) only[go_sem,simprocAttr])
       all_goals first|exact⟨_,St.le_refl _,rfl⟩|exact⟨_,St.le_refl _⟩
end Go.Proofs.YtppdgejjmhdjhaaGreatDoor
