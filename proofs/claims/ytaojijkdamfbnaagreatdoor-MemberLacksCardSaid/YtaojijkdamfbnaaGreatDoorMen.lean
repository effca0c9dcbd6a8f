/- Parts of the proof, joined; conditions: those that its theorems name. -/
import Derived.Test.YtaojijkdamfbnaaGreatDoorMem
set_option linter.unusedVariables false
set_option linter.unusedSimpArgs false
set_option maxHeartbeats 4000000
namespace Go.Proofs.YtaojijkdamfbnaaGreatDoor
set_option maxRecDepth 100000
set_option maxHeartbeats 4000000
theorem Bm(p:VA→Bool)(g:FuncId)(l:List VA)(hl:l.length≤1000000)(t:Bool)(hg:∀x,x∈l→aA Tryz.prog g [.agg x.c] St.none (fun r _=>r=.bool (p x))) :
  aA Tryz.prog 157 [.lst 3 (l.map VA.c) t,.fn (.func g) [] []] St.none (fun r _=>r=.int .i64 (if l.any p then(l.findIdx p:Int) else -1)):=by
 refine(aA.body 19 [.tmp 4] Tryz.func157 rfl rfl rfl rfl ?_)
 repeat' (first|(with_reducible first|(refine wN fun _ hnl=>?_;revert hnl;(repeat refine wS fun _ _=>?_);intro hnl)|refine wE ?_|(refine wK ?_ ?_<;>intro h)|(refine wB ?_ ?_<;>intro h<;>simp only[h]))|simp(maxSteps:=4000000) (disch:=first|decide|assumption|omega|(simp only[wL];omega)) only[go_sem,simprocAttr,Tryz.f157])
 refine aH (α:=Nat) (fun k=>⟨19,[(8,.int .i64 (k:Int)),(7,.int .i64 (l.length:Int)),(6,.lst 3 (l.map VA.c) t),(0,.lst 3 (l.map VA.c) t),(1,.fn (.func g) [] [])],[]⟩) (fun _=>St.none)
  (fun k=>k≤l.length∧(l.take k).any p=false) (fun k=>l.length - k) (.of (.less ?_ (St.le_refl _)) ⟨0,rfl,rfl,by simp⟩) ?_
 ·simp(maxSteps:=4000000) (disch:=first|decide|assumption|omega|(simp only[wL];omega)) only[go_sem,simprocAttr,aC,aB]
  all_goals rfl
 ·rintro k ⟨h1,h2⟩
  by_cases hk:k<l.length
  ·have hgk:=hg _ (eO va0 hk)
   cases hp:p (l.getD k va0)
   ·rw[hp] at hgk
    repeat' (first|(with_reducible refine aM hgk ?_)|(with_reducible first|(refine wN fun _ hnl=>?_;revert hnl;(repeat refine wS fun _ _=>?_);intro hnl)|refine wE ?_|(refine wK ?_ ?_<;>intro h)|(refine wB ?_ ?_<;>intro h<;>simp only[h]))|simp(maxSteps:=4000000) (disch:=first|decide|assumption|omega|(simp only[wL];omega)) only[go_sem,simprocAttr,bG va0])
    refine .of (.less (l1:=[(8,.int .i64 ((k+1:Nat):Int)),(7,.int .i64 (l.length:Int)),(6,.lst 3 (l.map VA.c) t),(0,.lst 3 (l.map VA.c) t),(1,.fn (.func g) [] [])]) ?_ (St.le_refl _)) ⟨k+1,rfl,rfl,⟨by omega,?_⟩,by omega⟩
    ·simp(maxSteps:=4000000) (disch:=first|decide|assumption|omega|(simp only[wL];omega)) only[go_sem,simprocAttr,aC,aB]
     all_goals omega
    ·rw[nS hk,h2,←bM va0 hk,hp];rfl
   ·rw[hp] at hgk
    have hany:l.any p=true:=List.any_eq_true.2 ⟨_,eO va0 hk,hp⟩
    have hf:l.findIdx p=k:=by
     rw[List.findIdx_eq hk]
     refine⟨by rw[←bM va0 hk];exact hp,fun j hj=>?_⟩
     have:=List.any_eq_false.1 h2 l[j] (by rw[List.mem_take_iff_getElem];exact⟨j,by omega,rfl⟩)
     simpa using this
    rw[hany,hf]
    repeat' (first|(with_reducible refine aM hgk ?_)|(with_reducible first|(refine wN fun _ hnl=>?_;revert hnl;(repeat refine wS fun _ _=>?_);intro hnl)|refine wE ?_|(refine wK ?_ ?_<;>intro h)|(refine wB ?_ ?_<;>intro h<;>simp only[h]))|simp(maxSteps:=4000000) (disch:=first|decide|assumption|omega|(simp only[wL];omega)) only[go_sem,simprocAttr,bG va0])
  ·have:k=l.length:=by omega
   subst this
   rw[List.take_length] at h2
   rw[h2]
   repeat' (first|(with_reducible first|(refine wN fun _ hnl=>?_;revert hnl;(repeat refine wS fun _ _=>?_);intro hnl)|refine wE ?_|(refine wK ?_ ?_<;>intro h)|(refine wB ?_ ?_<;>intro h<;>simp only[h]))|simp(maxSteps:=4000000) (disch:=first|decide|assumption|omega|(simp only[wL];omega)) only[go_sem,simprocAttr,bG va0])
theorem sX(p:VA→Bool)(g:FuncId)(l:List VA)(hl:l.length≤1000000)(t:Bool)(hg:∀x,x∈l→aA Tryz.prog g [.agg x.c] St.none (fun r _=>r=.bool (p x))) :
  aA Tryz.prog 119 [.lst 3 (l.map VA.c) t,.fn (.func g) [] []] St.none (fun r _=>r=.bool (l.any p)):=by
 refine(aA.body 9 [.tmp 4] Tryz.func119 rfl rfl rfl rfl ?_)
 have hi:=Bm p g l hl t hg
 cases hany:l.any p
 ·rw[hany] at hi
  simp only[Bool.false_eq_true,if_false] at hi
  repeat' (first|(with_reducible refine aM hi ?_)|(with_reducible first|(refine wN fun _ hnl=>?_;revert hnl;(repeat refine wS fun _ _=>?_);intro hnl)|refine wE ?_|(refine wK ?_ ?_<;>intro h)|(refine wB ?_ ?_<;>intro h<;>simp only[h]))|simp(maxSteps:=4000000) (disch:=first|decide|assumption|omega|(simp only[wL];omega)) only[go_sem,simprocAttr,Tryz.f119])
 ·rw[hany] at hi
  simp only[if_true] at hi
  repeat' (first|(with_reducible refine aM hi ?_)|(with_reducible first|(refine wN fun _ hnl=>?_;revert hnl;(repeat refine wS fun _ _=>?_);intro hnl)|refine wE ?_|(refine wK ?_ ?_<;>intro h)|(refine wB ?_ ?_<;>intro h<;>simp only[h]))|simp(maxSteps:=4000000) (disch:=first|decide|assumption|omega|(simp only[wL];omega)) only[go_sem,simprocAttr,Tryz.f119])
  simp
theorem xK:∀(l:List VA),chunks 3 l.length ((l.map VA.c).flatten)=l.map VA.c
 | []=>rfl
 | v::l=>by
  simp only[List.map_cons,List.flatten_cons,List.length_cons,chunks,List.cons_append,List.nil_append,List.take_succ_cons,List.take_zero,List.drop_succ_cons,List.drop_zero]
  rw[xK l]
theorem Gg(f:F8):chunks 3 8 (fc f)=f.l.map VA.c:=by
 have:=xK f.l
 rwa [f.h] at this
theorem MO(n:Nat):((n:Int)).fdiv (2 ^ min 16 32)=((n / 65536:Nat):Int):=by
 rw[show(2:Int) ^ min 16 32=65536 by decide,Int.fdiv_eq_ediv_of_nonneg _ (by decide)]
 omega
theorem wV(v:VA):aA Tryz.prog 120 [.agg v.c] St.none (fun r _=>r=.bool (!dY v)):=by
 refine aA.cC (aA.body 6 [.tmp 2] Tryz.func120 rfl rfl rfl rfl ?_)
 have h:=mY v.kd v.n v.s
 repeat' (first|(with_reducible first|refine up h ?_)|(with_reducible first|(refine wN fun _ hnl=>?_;revert hnl;(repeat refine wS fun _ _=>?_);intro hnl)|refine wE ?_|(refine wK ?_ ?_<;>intro h)|(refine wB ?_ ?_<;>intro h<;>simp only[h]))|simp(maxSteps:=4000000) (disch:=first|decide|assumption|omega|(simp only[wL];omega)) only[go_sem,simprocAttr,Tryz.f120])
 all_goals first|exact⟨_,St.le_refl _,rfl⟩|exact⟨_,St.le_refl _⟩
theorem KY{α:Type}(p:α→Bool)(l:List α):(!(l.any fun x=>!p x))=l.all p:=by
 induction l with
 | nil=>rfl
 | cons x l ih=>simp only[List.any_cons,List.all_cons,Bool.not_or,Bool.not_not,ih]
theorem Al(c:CA):aA Tryz.prog 79 [.agg c.c] St.none (fun r _=>r=.bool (dO c)):=by
 refine aA.cC (aA.lC 31 [.tmp 2] Tryz.func79 rfl rfl rfl rfl ?_)
 have hlt:=c.lab.toNat_lt
 have hsh:=MO c.lab.toNat
 by_cases h:1≤c.id∧c.id<gC∧1≤c.ver∧c.ver≤big∧c.lab.toNat<65536
 ·have e:dO c=!(c.f.l.any fun v=>!dY v):=by unfold dO;rw[decide_eq_true h,Bool.true_and,KY]
  rw[e]
  obtain⟨h1,h2,h3,h4,h5⟩:=h
  unfold gC at h2
  unfold big at h4
  have hdv:c.lab.toNat / 65536=0:=by omega
  rw[hdv] at hsh
  have hc:=sX (fun v=>!dY v) 120 c.f.l (by rw[c.f.h];decide) true (fun v _=>wV v)
  refine iC (iU ?_)
  repeat' (first|(with_reducible first|(refine wT ?_;(first|((fail_if_success (have:=nl1));refine wN fun nl1 hnl=>?_)|refine wN fun _ hnl=>?_);revert hnl;(repeat refine wS fun _ _=>?_);intro hnl)|refine wE ?_|(refine wK ?_ ?_<;>intro h)|(refine wB ?_ ?_<;>intro h<;>simp only[h]))|simp(maxSteps:=4000000) (disch:=first|decide|assumption|omega|(simp only[wL];omega)) only[go_sem,simprocAttr,Tryz.f79,bV,cF])
  refine fH (iC (iU ?_))
  repeat' (first|(with_reducible first|(refine wT ?_;(first|((fail_if_success (have:=nl1));refine wN fun nl1 hnl=>?_)|refine wN fun _ hnl=>?_);revert hnl;(repeat refine wS fun _ _=>?_);intro hnl)|refine wE ?_|(refine wK ?_ ?_<;>intro h)|(refine wB ?_ ?_<;>intro h<;>simp only[h]))|simp(maxSteps:=4000000) (disch:=first|decide|assumption|omega|(simp only[wL];omega)) only[go_sem,simprocAttr,bV,cF,hsh])
  refine fH (JY (.step (bD.freeze (l1:=[(1,.cptr c.c)]) (σ1:=St.none) (St.none.set nl1 (.row 42 27 [c.c])) (St.le_refl _) (St.none_le _) (fun k o hk=>by simp[St.none] at hk) (fun p hp=>?_)) (.done (iU ?_))))
  ·simp only[List.mem_singleton] at hp
   subst hp
   exact .ptr (aJ _ _ _) (by simp)
  ·repeat' (first|(with_reducible first|refine up hc ?_)|(with_reducible first|(refine wT ?_;(first|((fail_if_success (have:=nl1));refine wN fun nl1 hnl=>?_)|refine wN fun _ hnl=>?_);revert hnl;(repeat refine wS fun _ _=>?_);intro hnl)|refine wE ?_|(refine wK ?_ ?_<;>intro h)|(refine wB ?_ ?_<;>intro h<;>simp only[h]))|simp(maxSteps:=4000000) (disch:=first|decide|assumption|omega|(simp only[wL];omega)) only[go_sem,simprocAttr,bV,cF,fY,Gg])
   all_goals first|exact⟨_,St.le_refl _,rfl⟩|exact⟨_,St.le_refl _⟩
 ·have e:dO c=false:=by unfold dO;rw[decide_eq_false h,Bool.false_and]
  rw[e]
  unfold gC big at h
  refine iC (iU ?_)
  repeat' (first|(with_reducible first|(refine wT ?_;(first|((fail_if_success (have:=nl1));refine wN fun nl1 hnl=>?_)|refine wN fun _ hnl=>?_);revert hnl;(repeat refine wS fun _ _=>?_);intro hnl)|refine wE ?_|(refine wK ?_ ?_<;>intro h)|(refine wB ?_ ?_<;>intro h<;>simp only[h]))|simp(maxSteps:=4000000) (disch:=first|decide|assumption|omega|(simp only[wL];omega)) only[go_sem,simprocAttr,Tryz.f79,bV,cF])
  refine fH (iC (iU ?_))
  repeat' (first|(with_reducible first|(refine wT ?_;(first|((fail_if_success (have:=nl1));refine wN fun nl1 hnl=>?_)|refine wN fun _ hnl=>?_);revert hnl;(repeat refine wS fun _ _=>?_);intro hnl)|refine wE ?_|(refine wK ?_ ?_<;>intro h)|(refine wB ?_ ?_<;>intro h<;>simp only[h]))|simp(maxSteps:=4000000) (disch:=first|decide|assumption|omega|(simp only[wL];omega)) only[go_sem,simprocAttr,bV,cF,hsh])
  all_goals first|exact⟨_,St.le_refl _,rfl⟩|exact⟨_,St.le_refl _⟩|(exfalso;omega)
theorem Kf:dM Tryz.prog 39=true:=by decide +kernel
theorem GZ(a b:VA):bY Tryz.prog 39 .neq (.agg a.c) (.agg b.c)=some (True,.bool (!decide (a=b))):=DH (Fy 4 a b) Kf
theorem Ml(m:UInt32)(i:Nat)(h:i<8):kS .u32 ((m.toNat:Int).fdiv (2 ^ min i 32)) 1=if bit m.toNat i=true then 1 else 0:=by
 rw[Nat.min_eq_left (by omega),show(2:Int) ^ i=((2 ^ i:Nat):Int) by simp,Int.fdiv_eq_ediv_of_nonneg _ (Int.natCast_nonneg _)]
 rw[show(m.toNat:Int) / ((2 ^ i:Nat):Int)=((m.toNat / 2 ^ i:Nat):Int) by simp]
 have hm:=m.toNat_lt
 have e:kS .u32 ((m.toNat / 2 ^ i:Nat):Int) 1=_:=AO (m.toNat / 2 ^ i) 1 (Nat.lt_of_le_of_lt (Nat.div_le_self _ _) hm) (by decide)
 rw[e,Nat.and_one_is_mod]
 unfold bit
 rw[Nat.testBit_eq_decide_div_mod_eq]
 have:=Nat.mod_two_eq_zero_or_one (m.toNat / 2 ^ i)
 rcases this with h|h<;>rw[h]<;>rfl
theorem pN(p:PA):aA Tryz.prog 107 [.agg p.c] St.none (fun r _=>r=.int .i64 (dJ p)):=by
 refine aA.cC (aA.body 55 [.tmp 2] Tryz.func107 rfl rfl rfl rfl ?_)
 have hm:=Aq p.mask
 have hl:=oO p.mask
 have hmt:=p.mask.toNat_lt
 have hlt:=p.lab.toNat_lt
 have hsh:=MO p.lab.toNat
 by_cases h0:p.mask.toNat=0∨511<p.mask.toNat
 ·have e:dJ p=11:=by unfold dJ;rw[if_pos h0]
  rw[e]
  repeat' (first|(with_reducible first|refine up hm ?_|refine up hl ?_)|(with_reducible first|(refine wT ?_;(first|((fail_if_success (have:=nl1));refine wN fun nl1 hnl=>?_)|refine wN fun _ hnl=>?_);revert hnl;(repeat refine wS fun _ _=>?_);intro hnl)|refine wE ?_|(refine wK ?_ ?_<;>intro h)|(refine wB ?_ ?_<;>intro h<;>simp only[h]))|simp(maxSteps:=4000000) (disch:=first|decide|assumption|omega|(simp only[wL];omega)) only[go_sem,simprocAttr,Tryz.f107,bV,cF])
  all_goals first|exact⟨_,St.le_refl _,rfl⟩|exact⟨_,St.le_refl _⟩|(exfalso;omega)
 ·by_cases h1:65536≤p.lab.toNat∨p.lab.toNat≠0∧bit p.mask.toNat 8=false
  ·have e:dJ p=1:=by unfold dJ;rw[if_neg h0,if_pos h1]
   rw[e]
   generalize bit p.mask.toNat 8=b8 at hl h1
   cases b8
   all_goals
    repeat' (first|(with_reducible first|refine up hm ?_|refine up hl ?_)|(with_reducible first|(refine wT ?_;(first|((fail_if_success (have:=nl1));refine wN fun nl1 hnl=>?_)|refine wN fun _ hnl=>?_);revert hnl;(repeat refine wS fun _ _=>?_);intro hnl)|refine wE ?_|(refine wK ?_ ?_<;>intro h)|(refine wB ?_ ?_<;>intro h<;>simp only[h]))|simp(maxSteps:=4000000) (disch:=first|decide|assumption|omega|(simp only[wL];omega)) only[go_sem,simprocAttr,Tryz.f107,bV,cF,hsh])
    all_goals first|exact⟨_,St.le_refl _,rfl⟩|exact⟨_,St.le_refl _⟩|(exfalso;simp only[reduceCtorEq,and_false,or_false,and_true] at h1;omega)
  ·have hbad:=fun i=>Ak (i:=i) h0 h1
   have hgood:=wR h0 h1
   have h1':p.lab.toNat<65536:=by omega
   have h1'':p.lab.toNat=0∨bit p.mask.toNat 8=true:=by
    cases hb:bit p.mask.toNat 8
    ·rw[hb] at h1;left;simp at h1;omega
    ·right;rfl
   clear h1
   generalize bit p.mask.toNat 8=b8 at hl h1''
   cases b8
   all_goals
    repeat' (first|(with_reducible first|refine up hm ?_|refine up hl ?_)|(with_reducible first|(refine wT ?_;(first|((fail_if_success (have:=nl1));refine wN fun nl1 hnl=>?_)|refine wN fun _ hnl=>?_);revert hnl;(repeat refine wS fun _ _=>?_);intro hnl)|refine wE ?_|(refine wK ?_ ?_<;>intro h)|(refine wB ?_ ?_<;>intro h<;>simp only[h]))|simp(maxSteps:=4000000) (disch:=first|decide|assumption|omega|(simp only[wL];omega)) only[go_sem,simprocAttr,Tryz.f107,bV,cF,fY,hsh])
    all_goals try (exfalso;simp only[reduceCtorEq,or_false] at h1'';omega)
    all_goals
     refine aH (α:=Nat) (fun i=>⟨55,[(33,.int .i64 (i:Int)),(32,.agg (fc p.f)),(1,.ptr nl1 0 0)],[]⟩) (fun _=>St.none.set nl1 (.row 77 26 [p.c])) (fun i=>i≤8∧∀j,j<i→(dY (p.f.get j)&&(decide ((p.f.get j).kd=0) || bit p.mask.toNat j))=true) (fun i=>8 - i) (.of (.less ?_ (St.le_refl _)) ⟨0,rfl,rfl,Nat.zero_le _,fun j h=>absurd h (Nat.not_lt_zero _)⟩) ?_
     ·simp(maxSteps:=4000000) (disch:=first|decide|assumption|omega|(simp only[wL];omega)) only[go_sem,simprocAttr,aC,aB]
      all_goals rfl
     ·rintro i ⟨hi,hq⟩
      by_cases h8:i<8
      ·have hc:=mY (p.f.get i).kd (p.f.get i).n (p.f.get i).s
       have hbad:=hbad i h8
       have hsb:=Ml p.mask i h8
       have hv:bY Tryz.prog 39 .neq (.agg (p.f.get i).c) (.agg [.int .i64 0,.int .i64 0,.str ⟨#[]⟩])=some (True,.bool (!decide (p.f.get i=va0))):=GZ (p.f.get i) va0
       have hz:dY (p.f.get i)=true→decide (p.f.get i=va0)=decide ((p.f.get i).kd=0):=fun hok=>by
        refine decide_eq_decide.mpr ⟨fun h=>by rw[h];rfl,fun h=>My hok h⟩
       obtain⟨x,hx⟩:∃x,p.f.get i=x:=⟨_,rfl⟩
       have hat:=nV (f:=p.f) h8
       rw[hx] at hc hbad hv hz hat
       obtain⟨bx,hbx⟩:∃b,bit p.mask.toNat i=b:=⟨_,rfl⟩
       rw[hbx] at hbad hsb
       cases hok:dY x<;>(have hc:aA Tryz.prog 121 [.agg x.c] St.none (fun r _=>r=.bool (dY x)):=hc)<;>rw[hok] at hc hbad hz
       ·rw[hbad (Bool.false_and _)]
        clear hbad hgood hq hz
        repeat' (first|(with_reducible first|refine up hc ?_)|(with_reducible first|(refine wT ?_;(first|((fail_if_success (have:=nl1));refine wN fun nl1 hnl=>?_)|refine wN fun _ hnl=>?_);revert hnl;(repeat refine wS fun _ _=>?_);intro hnl)|refine wE ?_|(refine wK ?_ ?_<;>intro h)|(refine wB ?_ ?_<;>intro h<;>simp only[h]))|simp(maxSteps:=4000000) (disch:=first|decide|assumption|omega|(simp only[wL];omega)) only[go_sem,simprocAttr,bV,cF,fY,hat])
        all_goals first|exact⟨_,St.le_refl _,rfl⟩|exact⟨_,St.le_refl _⟩
       ·rw[hz rfl] at hv
        obtain⟨bk,hbk⟩:∃b,decide (x.kd=0)=b:=⟨_,rfl⟩
        rw[hbk] at hv hbad
        cases hgg:(bk || bx)
        ·rw[hbad (by rw[hgg];rfl)]
         clear hbad hgood hq hz
         simp only[Bool.or_eq_false_iff] at hgg
         obtain⟨rfl,rfl⟩:=hgg
         rw[if_neg (by simp)] at hsb
         repeat' (first|(with_reducible first|refine up hc ?_)|(with_reducible first|(refine wT ?_;(first|((fail_if_success (have:=nl1));refine wN fun nl1 hnl=>?_)|refine wN fun _ hnl=>?_);revert hnl;(repeat refine wS fun _ _=>?_);intro hnl)|refine wE ?_|(refine wK ?_ ?_<;>intro h)|(refine wB ?_ ?_<;>intro h<;>simp only[h]))|simp(maxSteps:=4000000) (disch:=first|decide|assumption|omega|(simp only[wL];omega)) only[go_sem,simprocAttr,bV,cF,fY,hat,hv,hsb])
         all_goals first|exact⟨_,St.le_refl _,rfl⟩|exact⟨_,St.le_refl _⟩
        ·clear hbad hgood hz
         have hnext:∀j,j<i+1→(dY (p.f.get j)&&(decide ((p.f.get j).kd=0) || bit p.mask.toNat j))=true:=fun j hj=>by
          by_cases hji:j=i
          ·rw[hji,hx,hok,hbk,hbx,hgg];rfl
          ·exact hq j (by omega)
         clear hq
         cases bk<;>cases bx
         ·simp at hgg
         all_goals
          simp only[if_true,Bool.false_eq_true,if_false] at hsb
          repeat' (first|(with_reducible first|refine up hc ?_)|(with_reducible first|(refine wT ?_;(first|((fail_if_success (have:=nl1));refine wN fun nl1 hnl=>?_)|refine wN fun _ hnl=>?_);revert hnl;(repeat refine wS fun _ _=>?_);intro hnl)|refine wE ?_|(refine wK ?_ ?_<;>intro h)|(refine wB ?_ ?_<;>intro h<;>simp only[h]))|simp(maxSteps:=4000000) (disch:=first|decide|assumption|omega|(simp only[wL];omega)) only[go_sem,simprocAttr,bV,cF,fY,hat,hv,hsb])
          all_goals
           refine .of (.less ?_ (St.aE (St.none_le _) (by simp[St.set, *]))) ⟨i+1,rfl,rfl,⟨by omega,hnext⟩,by omega⟩
           simp(maxSteps:=4000000) (disch:=first|decide|assumption|omega|(simp only[wL];omega)) only[go_sem,simprocAttr,aC,aB]
           all_goals rfl
      ·have:i=8:=by omega
       subst this
       rw[hgood hq]
       repeat' (first|(with_reducible first|(refine wT ?_;(first|((fail_if_success (have:=nl1));refine wN fun nl1 hnl=>?_)|refine wN fun _ hnl=>?_);revert hnl;(repeat refine wS fun _ _=>?_);intro hnl)|refine wE ?_|(refine wK ?_ ?_<;>intro h)|(refine wB ?_ ?_<;>intro h<;>simp only[h]))|simp(maxSteps:=4000000) (disch:=first|decide|assumption|omega|(simp only[wL];omega)) only[go_sem,simprocAttr])
       all_goals first|exact⟨_,St.le_refl _,rfl⟩|exact⟨_,St.le_refl _⟩
end Go.Proofs.YtaojijkdamfbnaaGreatDoor
