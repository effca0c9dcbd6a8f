/- Parts of the proof, joined; conditions: those that its theorems name. -/
import Derived.Test.YtaojijkdamfbnaaGreatDoorMfi
import Derived.Shelf.SlIterI.Nil
import Derived.Shelf.SortM.Plain
import Derived.Shelf.SortM.SortNone
import Derived.Test.YtaojijkdamfbnaaGreatDoorRows
set_option linter.unusedVariables false
set_option linter.unusedSimpArgs false
set_option maxHeartbeats 4000000
namespace Go.Proofs.YtaojijkdamfbnaaGreatDoor
section
set_option maxRecDepth 100000
set_option maxHeartbeats 4000000
theorem AU(p:VA→Bool)(g:FuncId)(l:List VA)(hl:l.length≤1000000)(t:Bool)(hg:∀x,x∈l→aA Tryz.prog g [.agg x.c] St.none (fun r _=>r=.bool (p x))) :
  aA Tryz.prog 157 [.lst 3 (l.map VA.c) t,.fn (.func g) [] []] St.none (fun r _=>r=.int .i64 (if l.any p then(l.findIdx p:Int) else -1)):=by
 refine(aA.body 19 [.tmp 4] Tryz.func157 rfl rfl rfl rfl ?_)
 repeat' (first|(with_reducible first|(refine wN fun _ hnl=>?_;revert hnl;(repeat refine wS fun _ _=>?_);intro hnl)|refine wE ?_|(refine wK ?_ ?_<;>intro h)|(refine wB ?_ ?_<;>intro h<;>simp only[h]))|simp(maxSteps:=4000000) (disch:=first|decide|assumption|omega|(simp only[wL];omega)) only[go_sem,simprocAttr,Tryz.f157])
 refine aH (α:=Nat) (fun k=>⟨19,[(8,.int .i64 (k:Int)),(7,.int .i64 (l.length:Int)),(6,.lst 3 (l.map VA.c) t),(0,.lst 3 (l.map VA.c) t),(1,.fn (.func g) [] [])],[]⟩) (fun _=>St.none)
  (fun k=>k≤l.length∧(l.take k).any p=false) (fun k=>l.length - k) (.of (.less ?_ (St.le_refl _)) ⟨0,rfl,rfl,by simp⟩) ?_
 ·simp(maxSteps:=4000000) (disch:=first|decide|assumption|omega|(simp only[wL];omega)) only[go_sem,simprocAttr,aC,aB]
  all_goals rfl
 ·rintro k ⟨h1,h2⟩
  by_cases hk:k<l.length
  ·have hgk:=hg _ (eB va0 hk)
   cases hp:p (l.getD k va0)
   ·rw[hp] at hgk
    repeat' (first|(with_reducible refine aK hgk ?_)|(with_reducible first|(refine wN fun _ hnl=>?_;revert hnl;(repeat refine wS fun _ _=>?_);intro hnl)|refine wE ?_|(refine wK ?_ ?_<;>intro h)|(refine wB ?_ ?_<;>intro h<;>simp only[h]))|simp(maxSteps:=4000000) (disch:=first|decide|assumption|omega|(simp only[wL];omega)) only[go_sem,simprocAttr,bE va0])
    refine .of (.less (l1:=[(8,.int .i64 ((k+1:Nat):Int)),(7,.int .i64 (l.length:Int)),(6,.lst 3 (l.map VA.c) t),(0,.lst 3 (l.map VA.c) t),(1,.fn (.func g) [] [])]) ?_ (St.le_refl _)) ⟨k+1,rfl,rfl,⟨by omega,?_⟩,by omega⟩
    ·simp(maxSteps:=4000000) (disch:=first|decide|assumption|omega|(simp only[wL];omega)) only[go_sem,simprocAttr,aC,aB]
     all_goals omega
    ·rw[nH hk,h2,←bH va0 hk,hp];rfl
   ·rw[hp] at hgk
    have hany:l.any p=true:=List.any_eq_true.2 ⟨_,eB va0 hk,hp⟩
    have hf:l.findIdx p=k:=by
     rw[List.findIdx_eq hk]
     refine⟨by rw[←bH va0 hk];exact hp,fun j hj=>?_⟩
     have:=List.any_eq_false.1 h2 l[j] (by rw[List.mem_take_iff_getElem];exact⟨j,by omega,rfl⟩)
     simpa using this
    rw[hany,hf]
    repeat' (first|(with_reducible refine aK hgk ?_)|(with_reducible first|(refine wN fun _ hnl=>?_;revert hnl;(repeat refine wS fun _ _=>?_);intro hnl)|refine wE ?_|(refine wK ?_ ?_<;>intro h)|(refine wB ?_ ?_<;>intro h<;>simp only[h]))|simp(maxSteps:=4000000) (disch:=first|decide|assumption|omega|(simp only[wL];omega)) only[go_sem,simprocAttr,bE va0])
  ·have:k=l.length:=by omega
   subst this
   rw[List.take_length] at h2
   rw[h2]
   repeat' (first|(with_reducible first|(refine wN fun _ hnl=>?_;revert hnl;(repeat refine wS fun _ _=>?_);intro hnl)|refine wE ?_|(refine wK ?_ ?_<;>intro h)|(refine wB ?_ ?_<;>intro h<;>simp only[h]))|simp(maxSteps:=4000000) (disch:=first|decide|assumption|omega|(simp only[wL];omega)) only[go_sem,simprocAttr,bE va0])
theorem sJ(p:VA→Bool)(g:FuncId)(l:List VA)(hl:l.length≤1000000)(t:Bool)(hg:∀x,x∈l→aA Tryz.prog g [.agg x.c] St.none (fun r _=>r=.bool (p x))) :
  aA Tryz.prog 119 [.lst 3 (l.map VA.c) t,.fn (.func g) [] []] St.none (fun r _=>r=.bool (l.any p)):=by
 refine(aA.body 9 [.tmp 4] Tryz.func119 rfl rfl rfl rfl ?_)
 have hi:=AU p g l hl t hg
 cases hany:l.any p
 ·rw[hany] at hi
  simp only[Bool.false_eq_true,if_false] at hi
  repeat' (first|(with_reducible refine aK hi ?_)|(with_reducible first|(refine wN fun _ hnl=>?_;revert hnl;(repeat refine wS fun _ _=>?_);intro hnl)|refine wE ?_|(refine wK ?_ ?_<;>intro h)|(refine wB ?_ ?_<;>intro h<;>simp only[h]))|simp(maxSteps:=4000000) (disch:=first|decide|assumption|omega|(simp only[wL];omega)) only[go_sem,simprocAttr,Tryz.f119])
 ·rw[hany] at hi
  simp only[if_true] at hi
  repeat' (first|(with_reducible refine aK hi ?_)|(with_reducible first|(refine wN fun _ hnl=>?_;revert hnl;(repeat refine wS fun _ _=>?_);intro hnl)|refine wE ?_|(refine wK ?_ ?_<;>intro h)|(refine wB ?_ ?_<;>intro h<;>simp only[h]))|simp(maxSteps:=4000000) (disch:=first|decide|assumption|omega|(simp only[wL];omega)) only[go_sem,simprocAttr,Tryz.f119])
  simp
theorem wJ:∀(l:List VA),chunks 3 l.length ((l.map VA.c).flatten)=l.map VA.c
 | []=>rfl
 | v::l=>by
  simp only[List.map_cons,List.flatten_cons,List.length_cons,chunks,List.cons_append,List.nil_append,List.take_succ_cons,List.take_zero,List.drop_succ_cons,List.drop_zero]
  rw[wJ l]
theorem FN(f:F8):chunks 3 8 (fc f)=f.l.map VA.c:=by
 have:=wJ f.l
 rwa [f.h] at this
theorem Mh(n:Nat):((n:Int)).fdiv (2 ^ min 16 32)=((n / 65536:Nat):Int):=by
 rw[show(2:Int) ^ min 16 32=65536 by decide,Int.fdiv_eq_ediv_of_nonneg _ (by decide)]
 omega
theorem vQ(v:VA):aA Tryz.prog 120 [.agg v.c] St.none (fun r _=>r=.bool (!dU v)):=by
 refine aA.cI (aA.body 6 [.tmp 2] Tryz.func120 rfl rfl rfl rfl ?_)
 have h:=mO v.kd v.n v.s
 repeat' (first|(with_reducible first|refine up h ?_)|(with_reducible first|(refine wN fun _ hnl=>?_;revert hnl;(repeat refine wS fun _ _=>?_);intro hnl)|refine wE ?_|(refine wK ?_ ?_<;>intro h)|(refine wB ?_ ?_<;>intro h<;>simp only[h]))|simp(maxSteps:=4000000) (disch:=first|decide|assumption|omega|(simp only[wL];omega)) only[go_sem,simprocAttr,Tryz.f120])
 all_goals first|exact⟨_,St.le_refl _,rfl⟩|exact⟨_,St.le_refl _⟩
theorem Ku{α:Type}(p:α→Bool)(l:List α):(!(l.any fun x=>!p x))=l.all p:=by
 induction l with
 | nil=>rfl
 | cons x l ih=>simp only[List.any_cons,List.all_cons,Bool.not_or,Bool.not_not,ih]
theorem zR(c:CA):aA Tryz.prog 79 [.agg c.c] St.none (fun r _=>r=.bool (dY c)):=by
 refine aA.cI (aA.k7 31 [.tmp 2] Tryz.func79 rfl rfl rfl rfl ?_)
 have hlt:=c.lab.toNat_lt
 have hsh:=Mh c.lab.toNat
 by_cases h:1≤c.id∧c.id<fY∧1≤c.ver∧c.ver≤big∧c.lab.toNat<65536
 ·have e:dY c=!(c.f.l.any fun v=>!dU v):=by unfold dY;rw[decide_eq_true h,Bool.true_and,Ku]
  rw[e]
  obtain⟨h1,h2,h3,h4,h5⟩:=h
  unfold fY at h2
  unfold big at h4
  have hdv:c.lab.toNat / 65536=0:=by omega
  rw[hdv] at hsh
  have hc:=sJ (fun v=>!dU v) 120 c.f.l (by rw[c.f.h];decide) true (fun v _=>vQ v)
  refine hZ (iR ?_)
  repeat' (first|(with_reducible first|(refine wT ?_;(first|((fail_if_success (have:=nl1));refine wN fun nl1 hnl=>?_)|refine wN fun _ hnl=>?_);revert hnl;(repeat refine wS fun _ _=>?_);intro hnl)|refine wE ?_|(refine wK ?_ ?_<;>intro h)|(refine wB ?_ ?_<;>intro h<;>simp only[h]))|simp(maxSteps:=4000000) (disch:=first|decide|assumption|omega|(simp only[wL];omega)) only[go_sem,simprocAttr,Tryz.f79,bW,cJ])
  refine fD (hZ (iR ?_))
  repeat' (first|(with_reducible first|(refine wT ?_;(first|((fail_if_success (have:=nl1));refine wN fun nl1 hnl=>?_)|refine wN fun _ hnl=>?_);revert hnl;(repeat refine wS fun _ _=>?_);intro hnl)|refine wE ?_|(refine wK ?_ ?_<;>intro h)|(refine wB ?_ ?_<;>intro h<;>simp only[h]))|simp(maxSteps:=4000000) (disch:=first|decide|assumption|omega|(simp only[wL];omega)) only[go_sem,simprocAttr,bW,cJ,hsh])
  refine fD (Ju (.step (bD.freeze (l1:=[(1,.cptr c.c)]) (σ1:=St.none) (St.none.set nl1 (.row 42 27 [c.c])) (St.le_refl _) (St.none_le _) (fun k o hk=>by simp[St.none] at hk) (fun p hp=>?_)) (.done (iR ?_))))
  ·simp only[List.mem_singleton] at hp
   subst hp
   exact .ptr (aF _ _ _) (by simp)
  ·repeat' (first|(with_reducible first|refine up hc ?_)|(with_reducible first|(refine wT ?_;(first|((fail_if_success (have:=nl1));refine wN fun nl1 hnl=>?_)|refine wN fun _ hnl=>?_);revert hnl;(repeat refine wS fun _ _=>?_);intro hnl)|refine wE ?_|(refine wK ?_ ?_<;>intro h)|(refine wB ?_ ?_<;>intro h<;>simp only[h]))|simp(maxSteps:=4000000) (disch:=first|decide|assumption|omega|(simp only[wL];omega)) only[go_sem,simprocAttr,bW,cJ,fV,FN])
   all_goals first|exact⟨_,St.le_refl _,rfl⟩|exact⟨_,St.le_refl _⟩
 ·have e:dY c=false:=by unfold dY;rw[decide_eq_false h,Bool.false_and]
  rw[e]
  unfold fY big at h
  refine hZ (iR ?_)
  repeat' (first|(with_reducible first|(refine wT ?_;(first|((fail_if_success (have:=nl1));refine wN fun nl1 hnl=>?_)|refine wN fun _ hnl=>?_);revert hnl;(repeat refine wS fun _ _=>?_);intro hnl)|refine wE ?_|(refine wK ?_ ?_<;>intro h)|(refine wB ?_ ?_<;>intro h<;>simp only[h]))|simp(maxSteps:=4000000) (disch:=first|decide|assumption|omega|(simp only[wL];omega)) only[go_sem,simprocAttr,Tryz.f79,bW,cJ])
  refine fD (hZ (iR ?_))
  repeat' (first|(with_reducible first|(refine wT ?_;(first|((fail_if_success (have:=nl1));refine wN fun nl1 hnl=>?_)|refine wN fun _ hnl=>?_);revert hnl;(repeat refine wS fun _ _=>?_);intro hnl)|refine wE ?_|(refine wK ?_ ?_<;>intro h)|(refine wB ?_ ?_<;>intro h<;>simp only[h]))|simp(maxSteps:=4000000) (disch:=first|decide|assumption|omega|(simp only[wL];omega)) only[go_sem,simprocAttr,bW,cJ,hsh])
  all_goals first|exact⟨_,St.le_refl _,rfl⟩|exact⟨_,St.le_refl _⟩|(exfalso;omega)
theorem JL:dJ Tryz.prog 39=true:=by decide +kernel
theorem Gr(a b:VA):bZ Tryz.prog 39 .neq (.agg a.c) (.agg b.c)=some (True,.bool (!decide (a=b))):=Dk (E3 4 a b) JL
theorem LN(m:UInt32)(i:Nat)(h:i<8):kM .u32 ((m.toNat:Int).fdiv (2 ^ min i 32)) 1=if bit m.toNat i=true then 1 else 0:=by
 rw[Nat.min_eq_left (by omega),show(2:Int) ^ i=((2 ^ i:Nat):Int) by simp,Int.fdiv_eq_ediv_of_nonneg _ (Int.natCast_nonneg _)]
 rw[show(m.toNat:Int) / ((2 ^ i:Nat):Int)=((m.toNat / 2 ^ i:Nat):Int) by simp]
 have hm:=m.toNat_lt
 have e:kM .u32 ((m.toNat / 2 ^ i:Nat):Int) 1=_:=Am (m.toNat / 2 ^ i) 1 (Nat.lt_of_le_of_lt (Nat.div_le_self _ _) hm) (by decide)
 rw[e,Nat.and_one_is_mod]
 unfold bit
 rw[Nat.testBit_eq_decide_div_mod_eq]
 have:=Nat.mod_two_eq_zero_or_one (m.toNat / 2 ^ i)
 rcases this with h|h<;>rw[h]<;>rfl
theorem pA(p:PA):aA Tryz.prog 107 [.agg p.c] St.none (fun r _=>r=.int .i64 (dG p)):=by
 refine aA.cI (aA.body 55 [.tmp 2] Tryz.func107 rfl rfl rfl rfl ?_)
 have hm:=zV p.mask
 have hl:=oF p.mask
 have hmt:=p.mask.toNat_lt
 have hlt:=p.lab.toNat_lt
 have hsh:=Mh p.lab.toNat
 by_cases h0:p.mask.toNat=0∨511<p.mask.toNat
 ·have e:dG p=11:=by unfold dG;rw[if_pos h0]
  rw[e]
  repeat' (first|(with_reducible first|refine up hm ?_|refine up hl ?_)|(with_reducible first|(refine wT ?_;(first|((fail_if_success (have:=nl1));refine wN fun nl1 hnl=>?_)|refine wN fun _ hnl=>?_);revert hnl;(repeat refine wS fun _ _=>?_);intro hnl)|refine wE ?_|(refine wK ?_ ?_<;>intro h)|(refine wB ?_ ?_<;>intro h<;>simp only[h]))|simp(maxSteps:=4000000) (disch:=first|decide|assumption|omega|(simp only[wL];omega)) only[go_sem,simprocAttr,Tryz.f107,bW,cJ])
  all_goals first|exact⟨_,St.le_refl _,rfl⟩|exact⟨_,St.le_refl _⟩|(exfalso;omega)
 ·by_cases h1:65536≤p.lab.toNat∨p.lab.toNat≠0∧bit p.mask.toNat 8=false
  ·have e:dG p=1:=by unfold dG;rw[if_neg h0,if_pos h1]
   rw[e]
   generalize bit p.mask.toNat 8=b8 at hl h1
   cases b8
   all_goals
    repeat' (first|(with_reducible first|refine up hm ?_|refine up hl ?_)|(with_reducible first|(refine wT ?_;(first|((fail_if_success (have:=nl1));refine wN fun nl1 hnl=>?_)|refine wN fun _ hnl=>?_);revert hnl;(repeat refine wS fun _ _=>?_);intro hnl)|refine wE ?_|(refine wK ?_ ?_<;>intro h)|(refine wB ?_ ?_<;>intro h<;>simp only[h]))|simp(maxSteps:=4000000) (disch:=first|decide|assumption|omega|(simp only[wL];omega)) only[go_sem,simprocAttr,Tryz.f107,bW,cJ,hsh])
    all_goals first|exact⟨_,St.le_refl _,rfl⟩|exact⟨_,St.le_refl _⟩|(exfalso;simp only[reduceCtorEq,and_false,or_false,and_true] at h1;omega)
  ·have hbad:=fun i=>zQ (i:=i) h0 h1
   have hgood:=vO h0 h1
   have h1':p.lab.toNat<65536:=by omega
   have h1'':p.lab.toNat=0∨bit p.mask.toNat 8=true:=by
    cases hb:bit p.mask.toNat 8
    ·rw[hb] at h1;left;simp at h1;omega
    ·right;rfl
   clear h1
   generalize bit p.mask.toNat 8=b8 at hl h1''
   cases b8
   all_goals
    repeat' (first|(with_reducible first|refine up hm ?_|refine up hl ?_)|(with_reducible first|(refine wT ?_;(first|((fail_if_success (have:=nl1));refine wN fun nl1 hnl=>?_)|refine wN fun _ hnl=>?_);revert hnl;(repeat refine wS fun _ _=>?_);intro hnl)|refine wE ?_|(refine wK ?_ ?_<;>intro h)|(refine wB ?_ ?_<;>intro h<;>simp only[h]))|simp(maxSteps:=4000000) (disch:=first|decide|assumption|omega|(simp only[wL];omega)) only[go_sem,simprocAttr,Tryz.f107,bW,cJ,fV,hsh])
    all_goals try (exfalso;simp only[reduceCtorEq,or_false] at h1'';omega)
    all_goals
     refine aH (α:=Nat) (fun i=>⟨55,[(33,.int .i64 (i:Int)),(32,.agg (fc p.f)),(1,.ptr nl1 0 0)],[]⟩) (fun _=>St.none.set nl1 (.row 77 26 [p.c])) (fun i=>i≤8∧∀j,j<i→(dU (p.f.get j)&&(decide ((p.f.get j).kd=0) || bit p.mask.toNat j))=true) (fun i=>8 - i) (.of (.less ?_ (St.le_refl _)) ⟨0,rfl,rfl,Nat.zero_le _,fun j h=>absurd h (Nat.not_lt_zero _)⟩) ?_
     ·simp(maxSteps:=4000000) (disch:=first|decide|assumption|omega|(simp only[wL];omega)) only[go_sem,simprocAttr,aC,aB]
      all_goals rfl
     ·rintro i ⟨hi,hq⟩
      by_cases h8:i<8
      ·have hc:=mO (p.f.get i).kd (p.f.get i).n (p.f.get i).s
       have hbad:=hbad i h8
       have hsb:=LN p.mask i h8
       have hv:bZ Tryz.prog 39 .neq (.agg (p.f.get i).c) (.agg [.int .i64 0,.int .i64 0,.str ⟨#[]⟩])=some (True,.bool (!decide (p.f.get i=va0))):=Gr (p.f.get i) va0
       have hz:dU (p.f.get i)=true→decide (p.f.get i=va0)=decide ((p.f.get i).kd=0):=fun hok=>by
        refine decide_eq_decide.mpr ⟨fun h=>by rw[h];rfl,fun h=>L1 hok h⟩
       obtain⟨x,hx⟩:∃x,p.f.get i=x:=⟨_,rfl⟩
       have hat:=nK (f:=p.f) h8
       rw[hx] at hc hbad hv hz hat
       obtain⟨bx,hbx⟩:∃b,bit p.mask.toNat i=b:=⟨_,rfl⟩
       rw[hbx] at hbad hsb
       cases hok:dU x<;>(have hc:aA Tryz.prog 121 [.agg x.c] St.none (fun r _=>r=.bool (dU x)):=hc)<;>rw[hok] at hc hbad hz
       ·rw[hbad (Bool.false_and _)]
        clear hbad hgood hq hz
        repeat' (first|(with_reducible first|refine up hc ?_)|(with_reducible first|(refine wT ?_;(first|((fail_if_success (have:=nl1));refine wN fun nl1 hnl=>?_)|refine wN fun _ hnl=>?_);revert hnl;(repeat refine wS fun _ _=>?_);intro hnl)|refine wE ?_|(refine wK ?_ ?_<;>intro h)|(refine wB ?_ ?_<;>intro h<;>simp only[h]))|simp(maxSteps:=4000000) (disch:=first|decide|assumption|omega|(simp only[wL];omega)) only[go_sem,simprocAttr,bW,cJ,fV,hat])
        all_goals first|exact⟨_,St.le_refl _,rfl⟩|exact⟨_,St.le_refl _⟩
       ·rw[hz rfl] at hv
        obtain⟨bk,hbk⟩:∃b,decide (x.kd=0)=b:=⟨_,rfl⟩
        rw[hbk] at hv hbad
        cases hgg:(bk || bx)
        ·rw[hbad (by rw[hgg];rfl)]
         clear hbad hgood hq hz
         simp only[Bool.or_eq_false_iff] at hgg
         obtain⟨rfl,rfl⟩:=hgg
         rw[if_neg (by simp)] at hsb
         repeat' (first|(with_reducible first|refine up hc ?_)|(with_reducible first|(refine wT ?_;(first|((fail_if_success (have:=nl1));refine wN fun nl1 hnl=>?_)|refine wN fun _ hnl=>?_);revert hnl;(repeat refine wS fun _ _=>?_);intro hnl)|refine wE ?_|(refine wK ?_ ?_<;>intro h)|(refine wB ?_ ?_<;>intro h<;>simp only[h]))|simp(maxSteps:=4000000) (disch:=first|decide|assumption|omega|(simp only[wL];omega)) only[go_sem,simprocAttr,bW,cJ,fV,hat,hv,hsb])
         all_goals first|exact⟨_,St.le_refl _,rfl⟩|exact⟨_,St.le_refl _⟩
        ·clear hbad hgood hz
         have hnext:∀j,j<i+1→(dU (p.f.get j)&&(decide ((p.f.get j).kd=0) || bit p.mask.toNat j))=true:=fun j hj=>by
          by_cases hji:j=i
          ·rw[hji,hx,hok,hbk,hbx,hgg];rfl
          ·exact hq j (by omega)
         clear hq
         cases bk<;>cases bx
         ·simp at hgg
         all_goals
          simp only[if_true,Bool.false_eq_true,if_false] at hsb
          repeat' (first|(with_reducible first|refine up hc ?_)|(with_reducible first|(refine wT ?_;(first|((fail_if_success (have:=nl1));refine wN fun nl1 hnl=>?_)|refine wN fun _ hnl=>?_);revert hnl;(repeat refine wS fun _ _=>?_);intro hnl)|refine wE ?_|(refine wK ?_ ?_<;>intro h)|(refine wB ?_ ?_<;>intro h<;>simp only[h]))|simp(maxSteps:=4000000) (disch:=first|decide|assumption|omega|(simp only[wL];omega)) only[go_sem,simprocAttr,bW,cJ,fV,hat,hv,hsb])
          all_goals
           refine .of (.less ?_ (St.aD (St.none_le _) (by simp[St.set, *]))) ⟨i+1,rfl,rfl,⟨by omega,hnext⟩,by omega⟩
           simp(maxSteps:=4000000) (disch:=first|decide|assumption|omega|(simp only[wL];omega)) only[go_sem,simprocAttr,aC,aB]
           all_goals rfl
      ·have:i=8:=by omega
       subst this
       rw[hgood hq]
       repeat' (first|(with_reducible first|(refine wT ?_;(first|((fail_if_success (have:=nl1));refine wN fun nl1 hnl=>?_)|refine wN fun _ hnl=>?_);revert hnl;(repeat refine wS fun _ _=>?_);intro hnl)|refine wE ?_|(refine wK ?_ ?_<;>intro h)|(refine wB ?_ ?_<;>intro h<;>simp only[h]))|simp(maxSteps:=4000000) (disch:=first|decide|assumption|omega|(simp only[wL];omega)) only[go_sem,simprocAttr])
       all_goals first|exact⟨_,St.le_refl _,rfl⟩|exact⟨_,St.le_refl _⟩
end

section
open Go.Shelf
def nM:Go.Shelf.Ren:=⟨fun|7=>179|10=>202|n=>n,fun|23=>143|26=>3|3=>42|28=>189|0=>0|27=>188|33=>191|4=>4|n=>n,fun|n=>n⟩
theorem F9:Go.Proofs.SlLaysZI.n7 Tryz.prog nM:={
  mixed:=by kernel_rfl
  f7:=⟨Tryz.f179.name,by decide,Tryz.func179.trans (congrArg some (by kernel_rfl))⟩
  f10:=⟨Tryz.f202.name,by decide,Tryz.func202.trans (congrArg some (by kernel_rfl))⟩
  t0:=Tryz.underlying0
  a0:=Tryz.isAgg0
  z0:=Tryz.sizeOf0
  v0:=Tryz.zeroValue0
  t4:=Tryz.underlying4
  a4:=Tryz.isAgg4
  z4:=Tryz.sizeOf4
  v4:=Tryz.zeroValue4
  t23:=Tryz.underlying143
  a23:=Tryz.isAgg143
  z23:=Tryz.sizeOf143
  v23:=Tryz.zeroValue143
  t26:=Tryz.underlying3
  a26:=Tryz.isAgg3
  z26:=Tryz.sizeOf3
  v26:=Tryz.zeroValue3
  t27:=Tryz.underlying188
  a27:=Tryz.isAgg188
  z27:=Tryz.sizeOf188
  v27:=Tryz.zeroValue188
  t28:=Tryz.underlying189
  a28:=Tryz.isAgg189
  z28:=Tryz.sizeOf189
  v28:=Tryz.zeroValue189
  t33:=Tryz.underlying191
  a33:=Tryz.isAgg191
  z33:=Tryz.sizeOf191
  v33:=Tryz.zeroValue191 }
def iN:Go.Shelf.Ren:=⟨fun|6=>178|8=>139|9=>201|11=>180|13=>217|12=>216|23=>237|24=>238|14=>229|15=>230|16=>231|17=>232|18=>233|19=>234|20=>141|21=>235|22=>236|25=>244|26=>245|27=>246|28=>247|29=>248|30=>183|31=>251|n=>n,fun|26=>3|28=>189|24=>46|0=>0|3=>3|37=>177|48=>28|50=>255|4=>4|40=>249|39=>248|45=>161|5=>5|9=>9|51=>257|55=>261|57=>265|58=>266|33=>191|n=>n,fun|n=>n⟩
theorem AZ:Go.Proofs.SlLaysZI.n6 Tryz.prog iN:={
  mixed:=by kernel_rfl
  f6:=⟨Tryz.f178.name,by decide,Tryz.func178.trans (congrArg some (by kernel_rfl))⟩
  f8:=⟨Tryz.f139.name,by decide,Tryz.func139.trans (congrArg some (by kernel_rfl))⟩
  f11:=⟨Tryz.f180.name,by decide,Tryz.func180.trans (congrArg some (by kernel_rfl))⟩
  t0:=Tryz.underlying0
  a0:=Tryz.isAgg0
  z0:=Tryz.sizeOf0
  v0:=Tryz.zeroValue0
  t24:=Tryz.underlying46
  a24:=Tryz.isAgg46
  z24:=Tryz.sizeOf46
  v24:=Tryz.zeroValue46
  t26:=Tryz.underlying3
  a26:=Tryz.isAgg3
  z26:=Tryz.sizeOf3
  v26:=Tryz.zeroValue3
  t28:=Tryz.underlying189
  a28:=Tryz.isAgg189
  z28:=Tryz.sizeOf189
  v28:=Tryz.zeroValue189
  i26:=by kernel_rfl }
def vC:Go.Shelf.Ren:=⟨fun|5=>201|8=>217|7=>216|19=>237|20=>238|10=>229|11=>230|12=>231|13=>232|14=>233|15=>234|16=>141|17=>235|18=>236|30=>244|31=>245|32=>246|33=>247|34=>248|35=>183|40=>251|n=>n,fun|23=>46|25=>3|3=>3|32=>177|22=>46|0=>0|44=>28|46=>255|4=>4|36=>249|35=>248|41=>161|5=>5|9=>9|53=>257|57=>261|63=>265|64=>266|n=>n,fun|n=>n⟩
theorem xD:Go.Proofs.SlLaysM.n5 Tryz.prog vC:={
  mixed:=by kernel_rfl
  f5:=⟨Tryz.f201.name,by decide,Tryz.func201.trans (congrArg some (by kernel_rfl))⟩
  f7:=⟨Tryz.f216.name,by decide,Tryz.func216.trans (congrArg some (by kernel_rfl))⟩
  f8:=Tryz.func217.trans (congrArg some (by kernel_rfl))
  f10:=⟨Tryz.f229.name,by decide,Tryz.func229.trans (congrArg some (by kernel_rfl))⟩
  f11:=⟨Tryz.f230.name,by decide,Tryz.func230.trans (congrArg some (by kernel_rfl))⟩
  f12:=⟨Tryz.f231.name,by decide,Tryz.func231.trans (congrArg some (by kernel_rfl))⟩
  f13:=⟨Tryz.f232.name,by decide,Tryz.func232.trans (congrArg some (by kernel_rfl))⟩
  f14:=⟨Tryz.f233.name,by decide,Tryz.func233.trans (congrArg some (by kernel_rfl))⟩
  f15:=⟨Tryz.f234.name,by decide,Tryz.func234.trans (congrArg some (by kernel_rfl))⟩
  f16:=⟨Tryz.f141.name,by decide,Tryz.func141.trans (congrArg some (by kernel_rfl))⟩
  f17:=⟨Tryz.f235.name,by decide,Tryz.func235.trans (congrArg some (by kernel_rfl))⟩
  f18:=⟨Tryz.f236.name,by decide,Tryz.func236.trans (congrArg some (by kernel_rfl))⟩
  f19:=Tryz.func237.trans (congrArg some (by kernel_rfl))
  f20:=Tryz.func238.trans (congrArg some (by kernel_rfl))
  f30:=⟨Tryz.f244.name,by decide,Tryz.func244.trans (congrArg some (by kernel_rfl))⟩
  f31:=Tryz.func245.trans (congrArg some (by kernel_rfl))
  f32:=Tryz.func246.trans (congrArg some (by kernel_rfl))
  f33:=⟨Tryz.f247.name,by decide,Tryz.func247.trans (congrArg some (by kernel_rfl))⟩
  f34:=⟨Tryz.f248.name,by decide,Tryz.func248.trans (congrArg some (by kernel_rfl))⟩
  f35:=⟨Tryz.f183.name,by decide,Tryz.func183.trans (congrArg some (by kernel_rfl))⟩
  f40:=⟨Tryz.f251.name,by decide,Tryz.func251.trans (congrArg some (by kernel_rfl))⟩
  t0:=Tryz.underlying0
  a0:=Tryz.isAgg0
  z0:=Tryz.sizeOf0
  v0:=Tryz.zeroValue0
  t3:=Tryz.underlying3
  a3:=Tryz.isAgg3
  z3:=Tryz.sizeOf3
  v3:=Tryz.zeroValue3
  t4:=Tryz.underlying4
  a4:=Tryz.isAgg4
  z4:=Tryz.sizeOf4
  v4:=Tryz.zeroValue4
  t5:=Tryz.underlying5
  a5:=Tryz.isAgg5
  z5:=Tryz.sizeOf5
  v5:=Tryz.zeroValue5
  t9:=Tryz.underlying9
  a9:=Tryz.isAgg9
  z9:=Tryz.sizeOf9
  v9:=Tryz.zeroValue9
  t22:=Tryz.underlying46
  a22:=Tryz.isAgg46
  z22:=Tryz.sizeOf46
  v22:=Tryz.zeroValue46
  t23:=Tryz.underlying46
  a23:=Tryz.isAgg46
  z23:=Tryz.sizeOf46
  v23:=Tryz.zeroValue46
  t25:=Tryz.underlying3
  a25:=Tryz.isAgg3
  z25:=Tryz.sizeOf3
  v25:=Tryz.zeroValue3
  t32:=Tryz.underlying177
  a32:=Tryz.isAgg177
  z32:=Tryz.sizeOf177
  v32:=Tryz.zeroValue177
  t35:=Tryz.underlying248
  a35:=Tryz.isAgg248
  z35:=Tryz.sizeOf248
  v35:=Tryz.zeroValue248
  t36:=Tryz.underlying249
  a36:=Tryz.isAgg249
  z36:=Tryz.sizeOf249
  v36:=Tryz.zeroValue249
  t41:=Tryz.underlying161
  a41:=Tryz.isAgg161
  z41:=Tryz.sizeOf161
  v41:=Tryz.zeroValue161
  t44:=Tryz.underlying28
  a44:=Tryz.isAgg28
  z44:=Tryz.sizeOf28
  v44:=Tryz.zeroValue28
  t46:=Tryz.underlying255
  a46:=Tryz.isAgg255
  z46:=Tryz.sizeOf255
  v46:=Tryz.zeroValue255
  t53:=Tryz.underlying257
  a53:=Tryz.isAgg257
  z53:=Tryz.sizeOf257
  v53:=Tryz.zeroValue257
  t57:=Tryz.underlying261
  a57:=Tryz.isAgg261
  z57:=Tryz.sizeOf261
  v57:=Tryz.zeroValue261
  t63:=Tryz.underlying265
  a63:=Tryz.isAgg265
  z63:=Tryz.sizeOf265
  v63:=Tryz.zeroValue265
  t64:=Tryz.underlying266
  a64:=Tryz.isAgg266
  z64:=Tryz.sizeOf266
  v64:=Tryz.zeroValue266 }
end

section
open Go.MapKept Go.RowKit Go.Maps Go.Sort Go.Shelf
open Go.WideElems (Fit rd rg)
def ME:MV→Int
 | .int _ n=>n
 | _=>0
def gL(es:List (MV × MV)):List Int:=es.map fun p=>ME p.1
def mD{H:Type}(_:Value):Option (DataW H × List MemPlace):=some (.lit (.bool true),[])
theorem LC{H:Type}{P:Program}{Φ:Phi}{w:World}{l:Nat}{es:List (MV × MV)}{k:TypeId}(h:cY Φ w l (.mp es))(hk:P.underlying k=some (.int .i64))
 (he:(es.all fun p=>isK .i64 p.1)=true)(hwf:∀n∈gL es,(Lit.int .i64 n).wf=true)(hl:es.length≤maxLen) :
  ∃(p:Place) (b:Nat) (D0:DataW H),Φ.obj l=some p∧p.blk=some b∧w.ownsMap P k mD b es.length D0∧(intKeys D0).Perm (gL es)∧Maps.size D0=es.length:=by
 obtain⟨p,R,c,clock,hp,hR,hh,hs,hst,hrel⟩:=h.E0
 have key:∀(i:Nat) (e:MapEntry),c.toList[i]?=some e→Go.WideElems.rd (H:=H) P k mD e=some (Lit.int .i64 ((gL es).getD i 0),.lit (.bool true)):=fun i e hi=>by
  have hlt:i<es.length:=by
   have:=(List.getElem?_eq_some_iff.1 hi).1
   rw[←hs];simpa using this
  obtain⟨e',q1,q2,_⟩:=hrel i es[i] (List.getElem?_eq_getElem hlt)
  rw[hi] at q1;cases q1
  have hik:=List.all_eq_true.1 he es[i] (List.getElem_mem hlt)
  obtain⟨n,hn⟩:=yQ hik
  rw[hn] at q2
  have hkn:(gL es).getD i 0=n:=by
   simp[gL,List.getD_eq_getElem?_getD,List.getElem?_eq_getElem hlt,hn,ME]
  have hw:=hwf n (by
   rw[gL,List.mem_map]
   exact⟨es[i],List.getElem_mem hlt,by rw[hn];rfl⟩)
  rw[hkn]
  simp[Go.WideElems.rd,mD,q2.aU,keyOf,mapKey,hk,hw]
 have hF:Fit (H:=H) P k mD c clock:=⟨by rw[hs];exact hl,hst,fun x hx=>by
  obtain⟨i,hi,rfl⟩:=List.mem_iff_getElem.1 hx
  exact⟨_,key i _ (List.getElem?_eq_getElem hi)⟩⟩
 have hmap:(c.toList.map (rg (H:=H) P k mD)).map (fun q=>Go.intOf q.1)=gL es:=by
  refine List.ext_getElem? fun i=>?_
  simp only[List.map_map,List.getElem?_map]
  rcases Nat.lt_or_ge i es.length with hi|hi
  ·have hc:i<c.toList.length:=by simpa[hs] using hi
   rw[List.getElem?_eq_getElem hc]
   have h1:=key i _ (List.getElem?_eq_getElem hc)
   simp only[Option.map_some,Function.comp,Go.WideElems.rg_of h1]
   have h2:i<(gL es).length:=by simpa[gL] using hi
   simp[Go.intOf,List.getD_eq_getElem?_getD,List.getElem?_eq_getElem h2]
  ·rw[List.getElem?_eq_none (by simpa[hs] using hi),List.getElem?_eq_none (by simpa[gL] using hi)]
   rfl
 refine⟨p,R,.map ((c.toList.map (rg P k mD)).foldr DataW.insert []),hp,hR,⟨c,clock,hh,hF,by omega,rfl⟩,?_,?_⟩
 ·show(((c.toList.map (rg P k mD)).foldr DataW.insert []).map fun q=>Go.intOf q.1).Perm _
  rw[←hmap]
  exact(Go.WideShapes.sorted_perm _).map _
 ·show((c.toList.map (rg P k mD)).foldr DataW.insert []).length=_
  rw[length_sorted];simp[hs]
theorem Inv.LM{Φ:Phi}{w w':World}{σ:St}(hi:Inv Φ w σ)(hi':Inv Φ w' σ)(st:Step Φ σ w Φ σ w')(g:Nat)(hg:w.heap.size≤g) :
  Inv (Φ.oM w' (fun k=>k=g)) w' σ∧Step Φ σ w (Φ.oM w' (fun k=>k=g)) σ w':=by
 have hle:=r0 Φ w' (fun k=>k=g)
 refine⟨⟨fun l o h=>(hi'.own l o h).mono hle (fun _ _ _ _=>rfl),hi'.inj,fun a v hv=>?_,fun l o p R a v hl hp hR hv=>?_,hi.fresh.1,fun q i v h=>hle.snap _ _ (hi.fresh.2.1 q i v h),hi.fresh.2.2.mono hle.snap⟩,
  ⟨hle,st.os,st.tape,st.output,st.drawn,st.size,st.block,fun a v hv=>?_,st.locs,st.ownd⟩⟩
 ·rcases eF hv with q|⟨_,q⟩
  ·exact hi'.snap a v q
  ·exact q
 ·rcases eF hv with q|⟨q,_⟩
  ·exact hi'.apart l o p R a v hl hp hR q
  ·intro e
   obtain⟨p',hp',hlt⟩:=(hi.own l o hl).place
   rw[show Φ.obj l=some p from hp] at hp'
   cases hp'
   have:=hlt R hR
   have q:R=g:=by rw[←e];exact q
   omega
 ·rcases eF hv with q|⟨q,_⟩
  ·exact .inl q
  ·have q:a.block=g:=q
   exact .inr (.inl (by omega))
theorem Cg{P:Program}{ρ ρk:Ren}(L6:SlLaysZI.n6 P ρ)(L10:SlLaysZI.n10 P ρk)(hs:∀m,AnyZI.SortsIn P ρ Fence.wide m)
 (e9:∀args w,(callFunc (ρ.f 9) args).run P w=.ok (.enter (ρ.f 9) args) w)(eg:∀args w,(callFunc (ρk.f 10) args).run P w=.ok (.enter (ρk.f 10) args) w)(hent:Enters P (ρ.f 6))
 {l l2:Nat}{tm:TypeId}{es:List (MV × MV)}(hne:l≠l2)(he:(es.all fun p=>isK .i64 p.1)=true)(hwf:∀n∈gL es,(Lit.int .i64 n).wf=true)(hl:es.length≤1000000) :
  aA P (ρ.f 6) [.fn (.func (ρk.f 10)) [] [.ptr l 0 0]] ((St.none.set l (.row tm 1 [[.mapv l2]])).set l2 (.mp es)) fun r σ' =>
   (∃ns:List Int,ns.Perm (gL es)∧ns.Pairwise (fun a b=>a≤b)∧r=.lst 1 (ns.map fun n=>[.int .i64 n]) false)∧σ'=(St.none.set l (.row tm 1 [[.mapv l2]])).set l2 (.mp es):=by
 obtain⟨σ0,hσ0⟩:∃σ0:St,(St.none.set l (.row tm 1 [[.mapv l2]])).set l2 (.mp es)=σ0:=⟨_,rfl⟩
 have h2:σ0 l2=some (.mp es):=by rw[←hσ0];exact aF _ _ _
 have h1:σ0 l=some (.row tm 1 [[.mapv l2]]):=by rw[←hσ0];simp[St.set,hne]
 rw[hσ0]
 refine⟨hent,fun Φ w vs hi hr=>?_⟩
 obtain⟨first,cap,e0,r1,r2⟩:=(hr.2 0 _ rfl).kZ
 have hf0:first=#[]:=by have:=r1.1;simp at this;exact this
 subst hf0
 have hcs:cap.size=1:=r2.1
 obtain⟨p,R,hp,hR,hc⟩:=(r2.2 0 _ rfl).fZ
 have hbo:p.bo=0:=hi.fresh.1.2 l p hp
 have hcap:cap=#[.pointer (some ⟨R,0,none⟩)]:=by
  refine Array.ext (by simpa using hcs) fun i q1 q2=>?_
  have hi0:i=0:=by omega
  subst hi0
  have:=hc
  rw[hbo] at this
  simp[Array.getD,q1] at this
  exact this
 have hvs:vs=#[.func (.func (ρk.f 10)) #[] #[.pointer (some ⟨R,0,none⟩)]]:=by
  have hz:=hr.1
  simp at hz
  refine Array.ext (by simpa using hz) fun i q1 q2=>?_
  have hi0:i=0:=by omega
  subst hi0
  have:=e0
  rw[hcap] at this
  simp[Array.getD,q1] at this
  exact this
 subst hvs
 -- the map
 obtain⟨p2,b,D0,hp2,hb2,hown,hperm,hsz⟩:=LC (H:=Unit) (P:=P) (k:=ρk.t 26) (hi.own l2 _ h2) L10.t26 he hwf (Nat.le_trans hl (by decide))
 -- the box
 obtain⟨p',hp',hpe,hlen,hmax,hx,hmatch⟩:=hi.own l _ h1
 rw[hp] at hp'
 cases hp'
 rw[hR] at hmatch
 obtain⟨c,fz,hheap,_,_,hcell⟩:=hmatch
 obtain⟨_,v,hv,hrel⟩:=hcell 0 _ 0 _ rfl rfl
 obtain⟨p3,R3,hp3,hR3,rfl⟩:=hrel.lZ
 rw[hp2] at hp3
 cases hp3
 rw[hb2] at hR3
 cases hR3
 have hRlt:R<w.heap.size:=by
  obtain⟨q,_⟩:=Array.getElem?_eq_some_iff.1 hheap;exact q
 have hcl:w.cell? ⟨R,0,none⟩=some (.map (some b)):=by
  simp only[World.cell?,hheap]
  rw[hbo] at hv
  simpa using hv
 have hseq:=AnyZI.keys_gives (H:=Unit) (ρ:=ρk) L10 Fence.wide 2 trivial rfl (by omega) R b es.length D0 w hRlt hcl hown
 have cS:=AnyZI.sorted_in L6 Fence.wide 5 trivial trivial trivial trivial rfl (by omega) (hs _) e9 (ρk.f 10) _ trivial eg _ (Maps.size D0) (by rw[hsz];exact Nat.le_trans hl (by decide)) (by rw[hsz];omega) w hseq
 refine(callsIn_wide.1 cS).mono ?_
 rintro e w' ⟨v,ss,rfl,hS,hrow,hnil,hb⟩
 obtain⟨i2,s2⟩:=hi.grow (w':=w') hb.os hb.tape hb.output (by simp[drw,DR]) hb.size hb.block
 have hpm:(ss.mergeSort (fun x y=>decide (x≤y))).Perm (gL es):=(List.mergeSort_perm ss _).trans (hS.trans hperm)
 have hpw:(ss.mergeSort (fun x y=>decide (x≤y))).Pairwise (fun a b=>a≤b):=(List.pairwise_mergeSort (le:=fun x y:Int=>decide (x≤y)) (fun a b c=>by simp;omega) (fun a b=>by simp;omega) ss).imp (fun h=>by simpa using h)
 generalize hns:ss.mergeSort (fun x y=>decide (x≤y))=ns at *
 have hnl:ns.length=ss.length:=by rw[←hns];exact List.length_mergeSort ss
 rcases hrow.2 with⟨rfl,hz⟩|⟨g,capn,cur,rfl,hbase,hgb,q1,q2,q3,q4⟩
 ·have hn0:ns=[]:=List.eq_nil_of_length_eq_zero (by omega)
  subst hn0
  exact⟨_,_,σ0,Φ,rfl,.lstn 1 false,i2,s2,⟨[],hpm,hpw,rfl⟩,rfl⟩
 ·obtain⟨i3,s3⟩:=hi.LM i2 s2 g hbase
  have h0:0<ss.length:=by
   rcases Nat.eq_zero_or_pos ss.length with h|h
   ·have:=hnil.2 (List.eq_nil_of_length_eq_zero h)
    cases this
   ·exact h
  refine⟨_,.lst 1 (ns.map fun n=>[.int .i64 n]) false,σ0,_,rfl,?_,i3,s3,⟨ns,hpm,hpw,rfl⟩,rfl⟩
  have hat:∀i,i<ns.length→w'.cell? ⟨g,i,none⟩=some (.int .i64 (ns.getD i 0)):=fun i hi'=>by
   have e1:(cur.toList.take (ss.length * 1))[i]?=(ns.map encZ)[i]?:=by rw[q4]
   rw[List.getElem?_take,if_pos (by omega),List.getElem?_map,List.getElem?_eq_getElem hi'] at e1
   simp only[World.cell?,hgb]
   simp at e1
   simp[e1,List.getD_eq_getElem?_getD,List.getElem?_eq_getElem hi',encZ]
  have hsn:∀i,i<ns.length→(Φ.oM w' (fun k=>k=g)).snap ⟨g,i,none⟩=some (.int .i64 (ns.getD i 0)):=fun i hi'=>by
   simp only[Phi.oM]
   split
   ·rename_i u hu
    have:=World.block_lt_of_cell? w _ (hi.snap _ _ hu)
    simp only at this
    omega
   ·simp[hat i hi']
  refine Rel.lst (vs:=fun i _=>.int .i64 (ns.getD i 0)) (by simpa using hnl) h0 q1 q2 (fun h=>by cases h) (fun i x hx=>?_) (fun i x j m hx hm=>?_) (fun i x j m hx hm=>?_)
  all_goals
   rw[List.getElem?_map,Option.map_eq_some_iff] at hx
   obtain⟨n,hn,rfl⟩:=hx
  ·rfl
  ·have hin:=(List.getElem?_eq_some_iff.1 hn).1
   have hj:j=0:=by
    have:=(List.getElem?_eq_some_iff.1 hm).1
    simpa using this
   subst hj
   simp at hm
   subst hm
   exact⟨rfl,by simpa using hsn i hin⟩
  ·have hj:j=0:=by
    have:=(List.getElem?_eq_some_iff.1 hm).1
    simpa using this
   subst hj
   simp at hm
   subst hm
   simp[List.getD_eq_getElem?_getD,hn]
   exact .int _ _
theorem MY(m:Nat):AnyZI.SortsIn Tryz.prog iN Fence.wide m :=
 ⟨fun blk off cap ss W hH hblk hsz=>callsIn_wide.2 (AnyM.slices_Sort_int xD blk off cap ss W hH hblk hsz),
  fun p cap W=>callsIn_wide.2 (AnyM.slices_Sort_int_none xD p cap W)⟩
theorem Ab{l l2:Nat}{es:List (MV × MV)}(hne:l≠l2)(he:(es.all fun p=>isK .i64 p.1)=true)(hwf:∀n∈gL es,(Lit.int .i64 n).wf=true)(hl:es.length≤1000000) :
  aA Tryz.prog 178 [.fn (.func 202) [] [.ptr l 0 0]] ((St.none.set l (.row 143 1 [[.mapv l2]])).set l2 (.mp es)) fun r σ' =>
   (∃ns:List Int,ns.Perm (gL es)∧ns.Pairwise (fun a b=>a≤b)∧r=.lst 1 (ns.map fun n=>[.int .i64 n]) false)∧σ'=(St.none.set l (.row 143 1 [[.mapv l2]])).set l2 (.mp es) :=
 Cg (ρ:=iN) (ρk:=nM) AZ { F9 with } MY (enters_of Tryz.func201 (by kernel_rfl) rfl) (enters_of Tryz.func202 (by kernel_rfl) rfl) ⟨_,Tryz.func178,rfl,rfl⟩ hne he hwf hl
end
end Go.Proofs.YtaojijkdamfbnaaGreatDoor
