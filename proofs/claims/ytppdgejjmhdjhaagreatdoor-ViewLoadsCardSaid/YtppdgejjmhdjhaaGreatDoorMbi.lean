/- Parts of the proof, joined; conditions: those that its theorems name. -/
import Derived.Test.YtppdgejjmhdjhaaGreatDoorMbh
set_option linter.unusedVariables false
set_option linter.unusedSimpArgs false
set_option maxHeartbeats 4000000
namespace Go.Proofs.YtppdgejjmhdjhaaGreatDoor
section
set_option maxRecDepth 100000
set_option maxHeartbeats 4000000
theorem BY(p:VA→Bool)(g:FuncId)(l:List VA)(hl:l.length≤1000000)(t:Bool)(hg:∀x,x∈l→aA Tryz.prog g [.agg x.c] St.none (fun r _=>r=.bool (p x))) :
  aA Tryz.prog 289 [.lst 3 (l.map VA.c) t,.fn (.func g) [] []] St.none (fun r _=>r=.int .i64 (if l.any p then(l.findIdx p:Int) else -1)):=by
 refine(aA.body 19 [.tmp 4] Tryz.func289 rfl rfl rfl rfl ?_)
 repeat' (first|(with_reducible first|(refine wN fun _ hnl=>?_;revert hnl;(repeat refine wS fun _ _=>?_);intro hnl)|refine wE ?_|(refine wK ?_ ?_<;>intro h)|(refine wB ?_ ?_<;>intro h<;>simp only[h]))|simp(maxSteps:=4000000) (disch:=first|decide|assumption|omega|(simp only[wL];omega)) only[go_sem,simprocAttr,Tryz.f289])
 refine aF (α:=Nat) (fun k=>⟨19,[(8,.int .i64 (k:Int)),(7,.int .i64 (l.length:Int)),(6,.lst 3 (l.map VA.c) t),(0,.lst 3 (l.map VA.c) t),(1,.fn (.func g) [] [])],[]⟩) (fun _=>St.none)
  (fun k=>k≤l.length∧(l.take k).any p=false) (fun k=>l.length - k) (.of (.less ?_ (St.le_refl _)) ⟨0,rfl,rfl,by simp⟩) ?_
 ·simp(maxSteps:=4000000) (disch:=first|decide|assumption|omega|(simp only[wL];omega)) only[go_sem,simprocAttr,aC,aB]
  all_goals rfl
 ·rintro k ⟨h1,h2⟩
  by_cases hk:k<l.length
  ·have hgk:=hg _ (dJ va0 hk)
   cases hp:p (l.getD k va0)
   ·rw[hp] at hgk
    repeat' (first|(with_reducible refine aQ hgk ?_)|(with_reducible first|(refine wN fun _ hnl=>?_;revert hnl;(repeat refine wS fun _ _=>?_);intro hnl)|refine wE ?_|(refine wK ?_ ?_<;>intro h)|(refine wB ?_ ?_<;>intro h<;>simp only[h]))|simp(maxSteps:=4000000) (disch:=first|decide|assumption|omega|(simp only[wL];omega)) only[go_sem,simprocAttr,bE va0])
    refine .of (.less (l1:=[(8,.int .i64 ((k+1:Nat):Int)),(7,.int .i64 (l.length:Int)),(6,.lst 3 (l.map VA.c) t),(0,.lst 3 (l.map VA.c) t),(1,.fn (.func g) [] [])]) ?_ (St.le_refl _)) ⟨k+1,rfl,rfl,⟨by omega,?_⟩,by omega⟩
    ·simp(maxSteps:=4000000) (disch:=first|decide|assumption|omega|(simp only[wL];omega)) only[go_sem,simprocAttr,aC,aB]
     all_goals omega
    ·rw[kF hk,h2,←bG va0 hk,hp];rfl
   ·rw[hp] at hgk
    have hany:l.any p=true:=List.any_eq_true.2 ⟨_,dJ va0 hk,hp⟩
    have hf:l.findIdx p=k:=by
     rw[List.findIdx_eq hk]
     refine⟨by rw[←bG va0 hk];exact hp,fun j hj=>?_⟩
     have:=List.any_eq_false.1 h2 l[j] (by rw[List.mem_take_iff_getElem];exact⟨j,by omega,rfl⟩)
     simpa using this
    rw[hany,hf]
    repeat' (first|(with_reducible refine aQ hgk ?_)|(with_reducible first|(refine wN fun _ hnl=>?_;revert hnl;(repeat refine wS fun _ _=>?_);intro hnl)|refine wE ?_|(refine wK ?_ ?_<;>intro h)|(refine wB ?_ ?_<;>intro h<;>simp only[h]))|simp(maxSteps:=4000000) (disch:=first|decide|assumption|omega|(simp only[wL];omega)) only[go_sem,simprocAttr,bE va0])
  ·have:k=l.length:=by omega
   subst this
   rw[List.take_length] at h2
   rw[h2]
   repeat' (first|(with_reducible first|(refine wN fun _ hnl=>?_;revert hnl;(repeat refine wS fun _ _=>?_);intro hnl)|refine wE ?_|(refine wK ?_ ?_<;>intro h)|(refine wB ?_ ?_<;>intro h<;>simp only[h]))|simp(maxSteps:=4000000) (disch:=first|decide|assumption|omega|(simp only[wL];omega)) only[go_sem,simprocAttr,bE va0])
theorem tQ(p:VA→Bool)(g:FuncId)(l:List VA)(hl:l.length≤1000000)(t:Bool)(hg:∀x,x∈l→aA Tryz.prog g [.agg x.c] St.none (fun r _=>r=.bool (p x))) :
  aA Tryz.prog 241 [.lst 3 (l.map VA.c) t,.fn (.func g) [] []] St.none (fun r _=>r=.bool (l.any p)):=by
 refine(aA.body 9 [.tmp 4] Tryz.func241 rfl rfl rfl rfl ?_)
 have hi:=BY p g l hl t hg
 cases hany:l.any p
 ·rw[hany] at hi
  simp only[Bool.false_eq_true,if_false] at hi
  repeat' (first|(with_reducible refine aQ hi ?_)|(with_reducible first|(refine wN fun _ hnl=>?_;revert hnl;(repeat refine wS fun _ _=>?_);intro hnl)|refine wE ?_|(refine wK ?_ ?_<;>intro h)|(refine wB ?_ ?_<;>intro h<;>simp only[h]))|simp(maxSteps:=4000000) (disch:=first|decide|assumption|omega|(simp only[wL];omega)) only[go_sem,simprocAttr,Tryz.f241])
 ·rw[hany] at hi
  simp only[if_true] at hi
  repeat' (first|(with_reducible refine aQ hi ?_)|(with_reducible first|(refine wN fun _ hnl=>?_;revert hnl;(repeat refine wS fun _ _=>?_);intro hnl)|refine wE ?_|(refine wK ?_ ?_<;>intro h)|(refine wB ?_ ?_<;>intro h<;>simp only[h]))|simp(maxSteps:=4000000) (disch:=first|decide|assumption|omega|(simp only[wL];omega)) only[go_sem,simprocAttr,Tryz.f241])
  simp
theorem yN:∀(l:List VA),chunks 3 l.length ((l.map VA.c).flatten)=l.map VA.c
 | []=>rfl
 | v::l=>by
  simp only[List.map_cons,List.flatten_cons,List.length_cons,chunks,List.cons_append,List.nil_append,List.take_succ_cons,List.take_zero,List.drop_succ_cons,List.drop_zero]
  rw[yN l]
theorem Hn(f:F8):chunks 3 8 (fc f)=f.l.map VA.c:=by
 have:=yN f.l
 rwa [f.h] at this
theorem N5(n:Nat):((n:Int)).fdiv (2 ^ min 16 32)=((n / 65536:Nat):Int):=by
 rw[show(2:Int) ^ min 16 32=65536 by decide,Int.fdiv_eq_ediv_of_nonneg _ (by decide)]
 omega
theorem x6(v:VA):aA Tryz.prog 242 [.agg v.c] St.none (fun r _=>r=.bool (!eC v)):=by
 refine aA.bZ (aA.body 6 [.tmp 2] Tryz.func242 rfl rfl rfl rfl ?_)
 have h:=nD v.kd v.n v.s
 repeat' (first|(with_reducible first|refine up h ?_)|(with_reducible first|(refine wN fun _ hnl=>?_;revert hnl;(repeat refine wS fun _ _=>?_);intro hnl)|refine wE ?_|(refine wK ?_ ?_<;>intro h)|(refine wB ?_ ?_<;>intro h<;>simp only[h]))|simp(maxSteps:=4000000) (disch:=first|decide|assumption|omega|(simp only[wL];omega)) only[go_sem,simprocAttr,Tryz.f242])
 all_goals first|exact⟨_,St.le_refl _,rfl⟩|exact⟨_,St.le_refl _⟩
theorem Ml{α:Type}(p:α→Bool)(l:List α):(!(l.any fun x=>!p x))=l.all p:=by
 induction l with
 | nil=>rfl
 | cons x l ih=>simp only[List.any_cons,List.all_cons,Bool.not_or,Bool.not_not,ih]
theorem p6(c:CA):aA Tryz.prog 188 [.agg c.c] St.none (fun r _=>r=.bool (cW c)):=by
 refine aA.bZ (aA.lL 31 [.tmp 2] Tryz.func188 rfl rfl rfl rfl ?_)
 have hlt:=c.lab.toNat_lt
 have hsh:=N5 c.lab.toNat
 by_cases h:1≤c.id∧c.id<eU∧1≤c.ver∧c.ver≤big∧c.lab.toNat<65536
 ·have e:cW c=!(c.f.l.any fun v=>!eC v):=by unfold cW;rw[decide_eq_true h,Bool.true_and,Ml]
  rw[e]
  obtain⟨h1,h2,h3,h4,h5⟩:=h
  unfold eU at h2
  unfold big at h4
  have hdv:c.lab.toNat / 65536=0:=by omega
  rw[hdv] at hsh
  have hc:=tQ (fun v=>!eC v) 242 c.f.l (by rw[c.f.h];decide) true (fun v _=>x6 v)
  refine fC (jR ?_)
  repeat' (first|(with_reducible first|(refine wT ?_;(first|((fail_if_success (have:=nl1));refine wN fun nl1 hnl=>?_)|refine wN fun _ hnl=>?_);revert hnl;(repeat refine wS fun _ _=>?_);intro hnl)|refine wE ?_|(refine wK ?_ ?_<;>intro h)|(refine wB ?_ ?_<;>intro h<;>simp only[h]))|simp(maxSteps:=4000000) (disch:=first|decide|assumption|omega|(simp only[wL];omega)) only[go_sem,simprocAttr,Tryz.f188,bU,cE])
  refine jW (fC (jR ?_))
  repeat' (first|(with_reducible first|(refine wT ?_;(first|((fail_if_success (have:=nl1));refine wN fun nl1 hnl=>?_)|refine wN fun _ hnl=>?_);revert hnl;(repeat refine wS fun _ _=>?_);intro hnl)|refine wE ?_|(refine wK ?_ ?_<;>intro h)|(refine wB ?_ ?_<;>intro h<;>simp only[h]))|simp(maxSteps:=4000000) (disch:=first|decide|assumption|omega|(simp only[wL];omega)) only[go_sem,simprocAttr,bU,cE,hsh])
  refine jW (K4 (.step (bM.freeze (l1:=[(1,.cptr c.c)]) (σ1:=St.none) (St.none.set nl1 (.row 126 27 [c.c])) (St.le_refl _) (St.none_le _) (fun k o hk=>by simp[St.none] at hk) (fun p hp=>?_)) (.done (jR ?_))))
  ·simp only[List.mem_singleton] at hp
   subst hp
   exact .ptr (aJ _ _ _) (by simp)
  ·repeat' (first|(with_reducible first|refine up hc ?_)|(with_reducible first|(refine wT ?_;(first|((fail_if_success (have:=nl1));refine wN fun nl1 hnl=>?_)|refine wN fun _ hnl=>?_);revert hnl;(repeat refine wS fun _ _=>?_);intro hnl)|refine wE ?_|(refine wK ?_ ?_<;>intro h)|(refine wB ?_ ?_<;>intro h<;>simp only[h]))|simp(maxSteps:=4000000) (disch:=first|decide|assumption|omega|(simp only[wL];omega)) only[go_sem,simprocAttr,bU,cE,fK,Hn])
   all_goals first|exact⟨_,St.le_refl _,rfl⟩|exact⟨_,St.le_refl _⟩
 ·have e:cW c=false:=by unfold cW;rw[decide_eq_false h,Bool.false_and]
  rw[e]
  unfold eU big at h
  refine fC (jR ?_)
  repeat' (first|(with_reducible first|(refine wT ?_;(first|((fail_if_success (have:=nl1));refine wN fun nl1 hnl=>?_)|refine wN fun _ hnl=>?_);revert hnl;(repeat refine wS fun _ _=>?_);intro hnl)|refine wE ?_|(refine wK ?_ ?_<;>intro h)|(refine wB ?_ ?_<;>intro h<;>simp only[h]))|simp(maxSteps:=4000000) (disch:=first|decide|assumption|omega|(simp only[wL];omega)) only[go_sem,simprocAttr,Tryz.f188,bU,cE])
  refine jW (fC (jR ?_))
  repeat' (first|(with_reducible first|(refine wT ?_;(first|((fail_if_success (have:=nl1));refine wN fun nl1 hnl=>?_)|refine wN fun _ hnl=>?_);revert hnl;(repeat refine wS fun _ _=>?_);intro hnl)|refine wE ?_|(refine wK ?_ ?_<;>intro h)|(refine wB ?_ ?_<;>intro h<;>simp only[h]))|simp(maxSteps:=4000000) (disch:=first|decide|assumption|omega|(simp only[wL];omega)) only[go_sem,simprocAttr,bU,cE,hsh])
  all_goals first|exact⟨_,St.le_refl _,rfl⟩|exact⟨_,St.le_refl _⟩|(exfalso;omega)
theorem Ln:cP Tryz.prog 54=true:=by decide +kernel
theorem H5(a b:VA):bT Tryz.prog 54 .neq (.agg a.c) (.agg b.c)=some (True,.bool (!decide (a=b))):=As (Gs 4 a b) Ln
theorem NI(m:UInt32)(i:Nat)(h:i<8):kZ .u32 ((m.toNat:Int).fdiv (2 ^ min i 32)) 1=if bit m.toNat i=true then 1 else 0:=by
 rw[Nat.min_eq_left (by omega),show(2:Int) ^ i=((2 ^ i:Nat):Int) by simp,Int.fdiv_eq_ediv_of_nonneg _ (Int.natCast_nonneg _)]
 rw[show(m.toNat:Int) / ((2 ^ i:Nat):Int)=((m.toNat / 2 ^ i:Nat):Int) by simp]
 have hm:=m.toNat_lt
 have e:kZ .u32 ((m.toNat / 2 ^ i:Nat):Int) 1=_:=Bk (m.toNat / 2 ^ i) 1 (Nat.lt_of_le_of_lt (Nat.div_le_self _ _) hm) (by decide)
 rw[e,Nat.and_one_is_mod]
 unfold bit
 rw[Nat.testBit_eq_decide_div_mod_eq]
 have:=Nat.mod_two_eq_zero_or_one (m.toNat / 2 ^ i)
 rcases this with h|h<;>rw[h]<;>rfl
theorem lN(p:PA):aA Tryz.prog 141 [.agg p.c] St.none (fun r _=>r=.int .i64 (cH p)):=by
 refine aA.bZ (aA.body 55 [.tmp 2] Tryz.func141 rfl rfl rfl rfl ?_)
 have hm:=lP p.mask
 have hl:=o6 p.mask
 have hmt:=p.mask.toNat_lt
 have hlt:=p.lab.toNat_lt
 have hsh:=N5 p.lab.toNat
 by_cases h0:p.mask.toNat=0∨511<p.mask.toNat
 ·have e:cH p=11:=by unfold cH;rw[if_pos h0]
  rw[e]
  repeat' (first|(with_reducible first|refine up hm ?_|refine up hl ?_)|(with_reducible first|(refine wT ?_;(first|((fail_if_success (have:=nl1));refine wN fun nl1 hnl=>?_)|refine wN fun _ hnl=>?_);revert hnl;(repeat refine wS fun _ _=>?_);intro hnl)|refine wE ?_|(refine wK ?_ ?_<;>intro h)|(refine wB ?_ ?_<;>intro h<;>simp only[h]))|simp(maxSteps:=4000000) (disch:=first|decide|assumption|omega|(simp only[wL];omega)) only[go_sem,simprocAttr,Tryz.f141,bU,cE])
  all_goals first|exact⟨_,St.le_refl _,rfl⟩|exact⟨_,St.le_refl _⟩|(exfalso;omega)
 ·by_cases h1:65536≤p.lab.toNat∨p.lab.toNat≠0∧bit p.mask.toNat 8=false
  ·have e:cH p=1:=by unfold cH;rw[if_neg h0,if_pos h1]
   rw[e]
   generalize bit p.mask.toNat 8=b8 at hl h1
   cases b8
   all_goals
    repeat' (first|(with_reducible first|refine up hm ?_|refine up hl ?_)|(with_reducible first|(refine wT ?_;(first|((fail_if_success (have:=nl1));refine wN fun nl1 hnl=>?_)|refine wN fun _ hnl=>?_);revert hnl;(repeat refine wS fun _ _=>?_);intro hnl)|refine wE ?_|(refine wK ?_ ?_<;>intro h)|(refine wB ?_ ?_<;>intro h<;>simp only[h]))|simp(maxSteps:=4000000) (disch:=first|decide|assumption|omega|(simp only[wL];omega)) only[go_sem,simprocAttr,Tryz.f141,bU,cE,hsh])
    all_goals first|exact⟨_,St.le_refl _,rfl⟩|exact⟨_,St.le_refl _⟩|(exfalso;simp only[reduceCtorEq,and_false,or_false,and_true] at h1;omega)
  ·have hbad:=fun i=>AU (i:=i) h0 h1
   have hgood:=xY h0 h1
   have h1':p.lab.toNat<65536:=by omega
   have h1'':p.lab.toNat=0∨bit p.mask.toNat 8=true:=by
    cases hb:bit p.mask.toNat 8
    ·rw[hb] at h1;left;simp at h1;omega
    ·right;rfl
   clear h1
   generalize bit p.mask.toNat 8=b8 at hl h1''
   cases b8
   all_goals
    repeat' (first|(with_reducible first|refine up hm ?_|refine up hl ?_)|(with_reducible first|(refine wT ?_;(first|((fail_if_success (have:=nl1));refine wN fun nl1 hnl=>?_)|refine wN fun _ hnl=>?_);revert hnl;(repeat refine wS fun _ _=>?_);intro hnl)|refine wE ?_|(refine wK ?_ ?_<;>intro h)|(refine wB ?_ ?_<;>intro h<;>simp only[h]))|simp(maxSteps:=4000000) (disch:=first|decide|assumption|omega|(simp only[wL];omega)) only[go_sem,simprocAttr,Tryz.f141,bU,cE,fK,hsh])
    all_goals try (exfalso;simp only[reduceCtorEq,or_false] at h1'';omega)
    all_goals
     refine aF (α:=Nat) (fun i=>⟨55,[(33,.int .i64 (i:Int)),(32,.agg (fc p.f)),(1,.ptr nl1 0 0)],[]⟩) (fun _=>St.none.set nl1 (.row 57 26 [p.c])) (fun i=>i≤8∧∀j,j<i→(eC (p.f.get j)&&(decide ((p.f.get j).kd=0) || bit p.mask.toNat j))=true) (fun i=>8 - i) (.of (.less ?_ (St.le_refl _)) ⟨0,rfl,rfl,Nat.zero_le _,fun j h=>absurd h (Nat.not_lt_zero _)⟩) ?_
     ·simp(maxSteps:=4000000) (disch:=first|decide|assumption|omega|(simp only[wL];omega)) only[go_sem,simprocAttr,aC,aB]
      all_goals rfl
     ·rintro i ⟨hi,hq⟩
      by_cases h8:i<8
      ·have hc:=nD (p.f.get i).kd (p.f.get i).n (p.f.get i).s
       have hbad:=hbad i h8
       have hsb:=NI p.mask i h8
       have hv:bT Tryz.prog 54 .neq (.agg (p.f.get i).c) (.agg [.int .i64 0,.int .i64 0,.str ⟨#[]⟩])=some (True,.bool (!decide (p.f.get i=va0))):=H5 (p.f.get i) va0
       have hz:eC (p.f.get i)=true→decide (p.f.get i=va0)=decide ((p.f.get i).kd=0):=fun hok=>by
        refine decide_eq_decide.mpr ⟨fun h=>by rw[h];rfl,fun h=>NT hok h⟩
       obtain⟨x,hx⟩:∃x,p.f.get i=x:=⟨_,rfl⟩
       have hat:=oB (f:=p.f) h8
       rw[hx] at hc hbad hv hz hat
       obtain⟨bx,hbx⟩:∃b,bit p.mask.toNat i=b:=⟨_,rfl⟩
       rw[hbx] at hbad hsb
       cases hok:eC x<;>(have hc:aA Tryz.prog 211 [.agg x.c] St.none (fun r _=>r=.bool (eC x)):=hc)<;>rw[hok] at hc hbad hz
       ·rw[hbad (Bool.false_and _)]
        clear hbad hgood hq hz
        repeat' (first|(with_reducible first|refine up hc ?_)|(with_reducible first|(refine wT ?_;(first|((fail_if_success (have:=nl1));refine wN fun nl1 hnl=>?_)|refine wN fun _ hnl=>?_);revert hnl;(repeat refine wS fun _ _=>?_);intro hnl)|refine wE ?_|(refine wK ?_ ?_<;>intro h)|(refine wB ?_ ?_<;>intro h<;>simp only[h]))|simp(maxSteps:=4000000) (disch:=first|decide|assumption|omega|(simp only[wL];omega)) only[go_sem,simprocAttr,bU,cE,fK,hat])
        all_goals first|exact⟨_,St.le_refl _,rfl⟩|exact⟨_,St.le_refl _⟩
       ·rw[hz rfl] at hv
        obtain⟨bk,hbk⟩:∃b,decide (x.kd=0)=b:=⟨_,rfl⟩
        rw[hbk] at hv hbad
        cases hgg:(bk || bx)
        ·rw[hbad (by rw[hgg];rfl)]
         clear hbad hgood hq hz
         simp only[Bool.or_eq_false_iff] at hgg
         obtain⟨rfl,rfl⟩:=hgg
         rw[if_neg (by simp)] at hsb
         repeat' (first|(with_reducible first|refine up hc ?_)|(with_reducible first|(refine wT ?_;(first|((fail_if_success (have:=nl1));refine wN fun nl1 hnl=>?_)|refine wN fun _ hnl=>?_);revert hnl;(repeat refine wS fun _ _=>?_);intro hnl)|refine wE ?_|(refine wK ?_ ?_<;>intro h)|(refine wB ?_ ?_<;>intro h<;>simp only[h]))|simp(maxSteps:=4000000) (disch:=first|decide|assumption|omega|(simp only[wL];omega)) only[go_sem,simprocAttr,bU,cE,fK,hat,hv,hsb])
         all_goals first|exact⟨_,St.le_refl _,rfl⟩|exact⟨_,St.le_refl _⟩
        ·clear hbad hgood hz
         have hnext:∀j,j<i+1→(eC (p.f.get j)&&(decide ((p.f.get j).kd=0) || bit p.mask.toNat j))=true:=fun j hj=>by
          by_cases hji:j=i
          ·rw[hji,hx,hok,hbk,hbx,hgg];rfl
          ·exact hq j (by omega)
         clear hq
         cases bk<;>cases bx
         ·simp at hgg
         all_goals
          simp only[if_true,Bool.false_eq_true,if_false] at hsb
          repeat' (first|(with_reducible first|refine up hc ?_)|(with_reducible first|(refine wT ?_;(first|((fail_if_success (have:=nl1));refine wN fun nl1 hnl=>?_)|refine wN fun _ hnl=>?_);revert hnl;(repeat refine wS fun _ _=>?_);intro hnl)|refine wE ?_|(refine wK ?_ ?_<;>intro h)|(refine wB ?_ ?_<;>intro h<;>simp only[h]))|simp(maxSteps:=4000000) (disch:=first|decide|assumption|omega|(simp only[wL];omega)) only[go_sem,simprocAttr,bU,cE,fK,hat,hv,hsb])
          all_goals
           refine .of (.less ?_ (St.aD (St.none_le _) (by simp[St.set, *]))) ⟨i+1,rfl,rfl,⟨by omega,hnext⟩,by omega⟩
           simp(maxSteps:=4000000) (disch:=first|decide|assumption|omega|(simp only[wL];omega)) only[go_sem,simprocAttr,aC,aB]
           all_goals rfl
      ·have:i=8:=by omega
       subst this
       rw[hgood hq]
       repeat' (first|(with_reducible first|(refine wT ?_;(first|((fail_if_success (have:=nl1));refine wN fun nl1 hnl=>?_)|refine wN fun _ hnl=>?_);revert hnl;(repeat refine wS fun _ _=>?_);intro hnl)|refine wE ?_|(refine wK ?_ ?_<;>intro h)|(refine wB ?_ ?_<;>intro h<;>simp only[h]))|simp(maxSteps:=4000000) (disch:=first|decide|assumption|omega|(simp only[wL];omega)) only[go_sem,simprocAttr])
       all_goals first|exact⟨_,St.le_refl _,rfl⟩|exact⟨_,St.le_refl _⟩
end

section
set_option maxRecDepth 100000
set_option maxHeartbeats 4000000
abbrev cX(L:List Nat):List (List MV):=L.map fun(i:Nat)=>[.int .i64 (i:Int)]
theorem IY(s:Nat)(hs:s<256)(l:Nat):JD Tryz.prog 273 [.ptr l 0 0] (St.none.set l (.row 23 1 [[.int .u32 (s:Int)]])) (cX (bJ s)):=by
 refine JD.lL 14 Tryz.func273 rfl rfl rfl rfl fun C hC hspec=>?_
 have hxl:(cX (bJ s)).length=(bJ s).length:=by simp[cX]
 rw[hxl]
 refine jW (zU (Mg (α:=Nat × Nat) (fun a=>⟨14,[(0,.fn (.yield C.l) [] []),(1,.ptr l 0 0)],[]⟩) (fun a=>St.none.set l (.row 23 1 [[.int .u32 (a.1:Int)]])) (fun a=>some a.2)
   (fun a=>a.1<256∧bJ a.1=(bJ s).drop a.2∧a.2≤(bJ s).length) (fun a=>(bJ a.1).length) ?_ ?_))
 ·refine .of (.less ?_ (St.le_refl _)) ⟨(s,0),rfl,rfl,rfl,hs,rfl,Nat.zero_le _⟩
  simp(maxSteps:=4000000) (disch:=first|exact ddL|fail) only[go_sem,simprocAttr,aC,aB]
 ·rintro⟨x,j⟩ ⟨hx,hj,hjl⟩
  simp only at hx hj hjl ⊢
  by_cases h0:x=0
  ·subst h0
   rw[G0] at hj
   have hjj:(bJ s).length≤j:=by
    refine Classical.byContradiction fun h=>?_
    have:=congrArg List.length hj
    rw[List.length_drop] at this
    simp at this
    omega
   have hje:j=(bJ s).length:=by omega
   refine tD (DO ?_)
   repeat' (first|(with_reducible first|(refine wN fun _ hnl=>?_;revert hnl;(repeat refine wS fun _ _=>?_);intro hnl)|refine wE ?_|(refine wK ?_ ?_<;>intro h)|(refine wB ?_ ?_<;>intro h<;>simp only[h]))|simp(maxSteps:=4000000) (disch:=first|exact ddL|fail) only[go_sem,simprocAttr,Tryz.f273])
   refine .inl ?_
   rw[hje]
  ·have hlow:=tK x hx h0
   have hh:=BQ hx h0
   have hlt:j<(bJ s).length:=by
    refine Classical.byContradiction fun h=>?_
    rw[List.drop_eq_nil_of_le (by omega)] at hj
    rw[hj] at hlow
    cases hlow
   have hdrop:=List.drop_eq_getElem_cons hlt
   rw[←hj,hlow] at hdrop
   obtain⟨hd1,hd2⟩:=List.cons.inj hdrop
   have hnext:x &&& (x - 1)<256:=Nat.lt_of_le_of_lt Nat.and_le_left hx
   have htz:=Lo x (by omega) hx
   have ha:kZ .u32 (x:Int) ((x:Int) - 1)=((x &&& (x - 1):Nat):Int):=by
    have:=Bk x (x - 1) (by omega) (by omega)
    rwa [show((x - 1:Nat):Int)=(x:Int) - 1 by omega] at this
   have hlen:(bJ (x &&& (x - 1))).length<(bJ x).length:=by
    conv=>rhs;rw[hlow]
    simp
   obtain⟨d,hde⟩:∃d,(bJ x).headD 0=d:=⟨_,rfl⟩
   rw[hde] at htz hh hd1
   obtain⟨y,hy⟩:∃y,x &&& (x - 1)=y:=⟨_,rfl⟩
   rw[hy] at ha hnext hd2 hlen
   clear hlow hdrop hde
   refine tD (DO ?_)
   repeat' (first|(with_reducible first|(refine wN fun _ hnl=>?_;revert hnl;(repeat refine wS fun _ _=>?_);intro hnl)|refine wE ?_|(refine wK ?_ ?_<;>intro h)|(refine wB ?_ ?_<;>intro h<;>simp only[h]))|simp(maxSteps:=4000000) (disch:=first|exact ddL|fail) only[go_sem,simprocAttr,Tryz.f273])
   refine jW (tD (zU (tD (JC (ops:=#[_,_,_,_,_]) [_,_,_] _ [_] rfl rfl rfl rfl rfl (x:=[.int .i64 (d:Int)]) (by
    rw[hC]
    rw[List.getElem?_map,List.getElem?_eq_getElem hlt,←hd1];rfl) (fun m hm=>by simp at hm;subst hm;exact .flat (.int _ _)) hspec ?_))))
   repeat' (first|(with_reducible first|refine up htz ?_)|(with_reducible first|(refine wN fun _ hnl=>?_;revert hnl;(repeat refine wS fun _ _=>?_);intro hnl)|refine wE ?_|(refine wK ?_ ?_<;>intro h)|(refine wB ?_ ?_<;>intro h<;>simp only[h]))|simp(maxSteps:=4000000) (disch:=first|exact ddL|fail) only[go_sem,simprocAttr])
   refine⟨jW (DO ?_),jW (DO ?_)⟩
   ·repeat' (first|(with_reducible first|(refine wN fun _ hnl=>?_;revert hnl;(repeat refine wS fun _ _=>?_);intro hnl)|refine wE ?_|(refine wK ?_ ?_<;>intro h)|(refine wB ?_ ?_<;>intro h<;>simp only[h]))|simp(maxSteps:=4000000) (disch:=first|exact ddL|fail) only[go_sem,simprocAttr])
    refine jW (DO ?_)
    repeat' (first|(with_reducible first|(refine wN fun _ hnl=>?_;revert hnl;(repeat refine wS fun _ _=>?_);intro hnl)|refine wE ?_|(refine wK ?_ ?_<;>intro h)|(refine wB ?_ ?_<;>intro h<;>simp only[h]))|simp(maxSteps:=4000000) (disch:=first|exact ddL|fail) only[go_sem,simprocAttr,ha])
    refine .of (.less ?_ (St.le_refl _)) ⟨(y,j+1),rfl,rfl,rfl,⟨hnext,hd2,by omega⟩,hlen⟩
    simp(maxSteps:=4000000) (disch:=first|exact ddL|fail) only[go_sem,simprocAttr,aC,aB]
   ·repeat' (first|(with_reducible first|(refine wN fun _ hnl=>?_;revert hnl;(repeat refine wS fun _ _=>?_);intro hnl)|refine wE ?_|(refine wK ?_ ?_<;>intro h)|(refine wB ?_ ?_<;>intro h<;>simp only[h]))|simp(maxSteps:=4000000) (disch:=first|exact ddL|fail) only[go_sem,simprocAttr])
    exact .inr trivial
theorem HJ{L:List Nat}{j:Nat}(h:j<L.length):cX (L.take (j+1))=cX (L.take j)++[[.int .i64 ((L.getD j 0:Nat):Int)]]:=by
 rw[cX,List.take_succ_eq_append_getElem h,List.map_append,bG 0 h];rfl
theorem AS(s:Nat)(hs:s<256)(l:Nat):aA Tryz.prog 235 [.aZ,.fn (.func 273) [] [.ptr l 0 0]] (St.none.set l (.row 23 1 [[.int .u32 (s:Int)]])) (fun r _=>r=.lst 1 (cX (bJ s)) false):=by
 refine aA.seen (aA.body 13 [.tmp 4] Tryz.func235 rfl rfl rfl rfl ?_)
 repeat' (first|(with_reducible first|(refine wT ?_;(first|((fail_if_success (have:=nl1));refine wN fun nl1 hnl=>?_)|((fail_if_success (have:=nl2));refine wN fun nl2 hnl=>?_)|((fail_if_success (have:=nl3));refine wN fun nl3 hnl=>?_)|refine wN fun _ hnl=>?_);revert hnl;(repeat refine wS fun _ _=>?_);intro hnl)|refine wE ?_|(refine wK ?_ ?_<;>intro h)|(refine wB ?_ ?_<;>intro h<;>simp only[h]))|simp(maxSteps:=4000000) (disch:=first|exact ddL|fail) only[go_sem,simprocAttr,Tryz.f235])
 have d1:nl1≠l:=by assumption
 have hbl:=qQ s
 refine jW (xU (gf:=273) (xs:=cX (bJ s)) rfl (σi:=St.none.set l (.row 23 1 [[.int .u32 (s:Int)]])) (St.aD (St.none_le _) (by simp[St.set, *])) (IY s hs l) ?_ rfl rfl
  (fc:=⟨13,[(2,.ptr nl1 0 0)],[]⟩) rfl (α:=Nat × List (List MV))
  (fun j a=>(St.none.set nl1 (.row 75 1 [[.vec 1 a.1 0 j]])).set a.1 (.row 3 1 (cX ((bJ s).take j)++a.2))) (fun j a=>a.1≠nl1) ?_ ?_ ?_)
 ·intro x hx
  obtain⟨y,_,rfl⟩:=List.mem_map.1 hx
  rfl
 ·refine Gh.vW (b:=nl1) (t:=75) (e:=1) (pre:=[]) (post:=[]) 3 1 ?_ fun q hq=>?_
  ·simp[St.minus,St.set,St.none,d1]
  ·have q1:q≠nl1:=fun e=>by subst e;simp[St.minus,St.set,St.none,d1] at hq
   refine .of (.less ?_ (σ1:=(St.none.set nl1 (.row 75 1 [[.vec 1 q 0 0]])).set q (.row 3 1 [])) (le2 (by simp[St.set,q1,Ne.symm q1]) (by simp[St.set]))) ⟨rfl,(q,[]),rfl,q1⟩
   simp(maxSteps:=4000000) (disch:=first|exact ddL|fail) only[go_sem,simprocAttr,aC,aB]
 ·rintro j x ⟨q,ex⟩ hx q1
  simp only at q1 ⊢
  have hjl:j<(bJ s).length:=by
   have:=(List.getElem?_eq_some_iff.1 hx).1
   simpa[cX] using this
  have hxe:x=[.int .i64 (((bJ s).getD j 0:Nat):Int)]:=by
   rw[List.getElem?_map,List.getElem?_eq_getElem hjl,←bG 0 hjl] at hx
   exact(Option.some.inj hx).symm
  subst hxe
  have hsn:=HJ hjl
  obtain⟨d,hd⟩:∃d,(bJ s).getD j 0=d:=⟨_,rfl⟩
  rw[hd] at hsn ⊢
  have hlj:(cX ((bJ s).take j)).length=j:=by rw[List.length_map,List.length_take];omega
  obtain⟨pre,hpre⟩:∃pre,cX ((bJ s).take j)=pre:=⟨_,rfl⟩
  rw[hpre] at hsn hlj ⊢
  change mwp _ _ (FR.mk 13 [(7,.int .i64 (d:Int)),(2,.ptr nl1 0 0)] []) _ _
  have q2:=Ne.symm q1
  have htk:(pre++ex).take j=pre:=by rw[←hlj,List.take_left'];rfl
  have hdr:(pre++ex).drop (j+1)=ex.drop 1:=by
   rw[←List.drop_drop,←hlj,List.drop_left'];rfl
  refine jR ?_
  repeat' (first|(with_reducible first|(refine wT ?_;(first|((fail_if_success (have:=nl1));refine wN fun nl1 hnl=>?_)|((fail_if_success (have:=nl2));refine wN fun nl2 hnl=>?_)|((fail_if_success (have:=nl3));refine wN fun nl3 hnl=>?_)|refine wN fun _ hnl=>?_);revert hnl;(repeat refine wS fun _ _=>?_);intro hnl)|refine wE ?_|(refine wK ?_ ?_<;>intro h)|(refine wB ?_ ?_<;>intro h<;>simp only[h]))|simp(maxSteps:=4000000) (disch:=first|exact ddL|fail) only[go_sem,simprocAttr])
  refine jW (jR ?_)
  repeat' (first|(with_reducible first|(refine wT ?_;(first|((fail_if_success (have:=nl1));refine wN fun nl1 hnl=>?_)|((fail_if_success (have:=nl2));refine wN fun nl2 hnl=>?_)|((fail_if_success (have:=nl3));refine wN fun nl3 hnl=>?_)|refine wN fun _ hnl=>?_);revert hnl;(repeat refine wS fun _ _=>?_);intro hnl)|refine wE ?_|(refine wK ?_ ?_<;>intro h)|(refine wB ?_ ?_<;>intro h<;>simp only[h]))|simp(maxSteps:=4000000) (disch:=first|exact ddL|fail) only[go_sem,simprocAttr,htk,hdr])
  ·have hex:ex=[]:=List.eq_nil_of_length_eq_zero (by omega)
   subst hex
   clear h
   refine .of (.less (l1:=[]) (fun p hp=>by cases hp) (σ1:=(St.none.set nl1 (.row 75 1 [[.vec 1 nl3 0 (j+1)]])).set nl3 (.row 3 1 (cX ((bJ s).take (j+1))++[]))) (le2 (by simp[St.set, *]) (by simp[St.set, *]))) ⟨(nl3,[]),rfl,by assumption⟩
  ·refine .of (.less (l1:=[]) (fun p hp=>by cases hp) (σ1:=(St.none.set nl1 (.row 75 1 [[.vec 1 nl3 0 (j+1)]])).set nl3 (.row 3 1 (cX ((bJ s).take (j+1))++ex.drop 1))) (le2 (by simp[St.set, *]) (by simp[St.set, *]))) ⟨(nl3,ex.drop 1),rfl,by assumption⟩
 ·rintro⟨q,ex⟩ q1
  simp only at q1 ⊢
  have q2:=Ne.symm q1
  have hli:(cX (bJ s)).length=(bJ s).length:=List.length_map _
  rw[hli,List.take_length]
  show R _
  repeat' (first|(with_reducible first|(refine wT ?_;(first|((fail_if_success (have:=nl1));refine wN fun nl1 hnl=>?_)|((fail_if_success (have:=nl2));refine wN fun nl2 hnl=>?_)|((fail_if_success (have:=nl3));refine wN fun nl3 hnl=>?_)|refine wN fun _ hnl=>?_);revert hnl;(repeat refine wS fun _ _=>?_);intro hnl)|refine wE ?_|(refine wK ?_ ?_<;>intro h)|(refine wB ?_ ?_<;>intro h<;>simp only[h]))|simp(maxSteps:=4000000) (disch:=first|exact ddL|fail) only[go_sem,simprocAttr])
  exact Qb (aJ _ _ _)
theorem x7(s:Nat)(hs:s<256)(l:Nat):aA Tryz.prog 180 [.fn (.func 273) [] [.ptr l 0 0]] (St.none.set l (.row 23 1 [[.int .u32 (s:Int)]])) (fun r _=>r=.lst 1 (cX (bJ s)) false):=by
 refine(aA.body 5 [.tmp 2] Tryz.func180 rfl rfl rfl rfl ?_)
 have h:=AS s hs l
 repeat' (first|(with_reducible first|(refine wN fun _ hnl=>?_;revert hnl;(repeat refine wS fun _ _=>?_);intro hnl)|refine wE ?_|(refine wK ?_ ?_<;>intro h)|(refine wB ?_ ?_<;>intro h<;>simp only[h]))|simp(maxSteps:=4000000) (disch:=first|exact ddL|fail) only[go_sem,simprocAttr,Tryz.f180])
 refine bX h (St.le_refl _) ?_
 rintro v σ' rfl -
 repeat' (first|(with_reducible first|(refine wN fun _ hnl=>?_;revert hnl;(repeat refine wS fun _ _=>?_);intro hnl)|refine wE ?_|(refine wK ?_ ?_<;>intro h)|(refine wB ?_ ?_<;>intro h<;>simp only[h]))|simp(maxSteps:=4000000) (disch:=first|exact ddL|fail) only[go_sem,simprocAttr])
theorem p8(m:UInt32):aA Tryz.prog 156 [.int .u32 (m.toNat:Int)] St.none (fun r _=>r=.lst 1 (cX (bJ m.toNat)) false):=by
 refine(aA.body 7 [.tmp 2] Tryz.func156 rfl rfl rfl rfl ?_)
 have ha:kZ .u32 (m.toNat:Int) 255=_:=Bk m.toNat 255 m.toNat_lt (by decide)
 have hlt:m.toNat &&& 255<256:=Nat.lt_of_le_of_lt Nat.and_le_right (by decide)
 have hb:=GZ m.toNat
 obtain⟨s,hs⟩:∃s,m.toNat &&& 255=s:=⟨_,rfl⟩
 rw[hs] at ha hlt hb
 have he:aA Tryz.prog 227 [.int .u32 (s:Int)] St.none (fun v σ'=>∃l,v=.fn (.func 273) [] [.ptr l 0 0]∧σ'=St.none.set l (.row 23 1 [[.int .u32 (s:Int)]])):=by
  refine(aA.body 4 [.tmp 2] Tryz.func227 rfl rfl rfl rfl ?_)
  repeat' (first|(with_reducible first|(refine wN fun _ hnl=>?_;revert hnl;(repeat refine wS fun _ _=>?_);intro hnl)|refine wE ?_|(refine wK ?_ ?_<;>intro h)|(refine wB ?_ ?_<;>intro h<;>simp only[h]))|simp(maxSteps:=4000000) (disch:=first|exact ddL|fail) only[go_sem,simprocAttr,Tryz.f227])
  exact⟨_,rfl,rfl⟩
 repeat' (first|(with_reducible first|(refine wN fun _ hnl=>?_;revert hnl;(repeat refine wS fun _ _=>?_);intro hnl)|refine wE ?_|(refine wK ?_ ?_<;>intro h)|(refine wB ?_ ?_<;>intro h<;>simp only[h]))|simp(maxSteps:=4000000) (disch:=first|exact ddL|fail) only[go_sem,simprocAttr,Tryz.f156,ha])
 refine qK he fun l hl=>?_
 repeat' (first|(with_reducible first|(refine wN fun _ hnl=>?_;revert hnl;(repeat refine wS fun _ _=>?_);intro hnl)|refine wE ?_|(refine wK ?_ ?_<;>intro h)|(refine wB ?_ ?_<;>intro h<;>simp only[h]))|simp(maxSteps:=4000000) (disch:=first|exact ddL|fail) only[go_sem,simprocAttr])
 have h:=x7 s hlt l
 refine bX h (St.le_refl _) ?_
 rintro v σ' rfl -
 repeat' (first|(with_reducible first|(refine wN fun _ hnl=>?_;revert hnl;(repeat refine wS fun _ _=>?_);intro hnl)|refine wE ?_|(refine wK ?_ ?_<;>intro h)|(refine wB ?_ ?_<;>intro h<;>simp only[h]))|simp(maxSteps:=4000000) (disch:=first|exact ddL|fail) only[go_sem,simprocAttr])
 rw[hb]
end
end Go.Proofs.YtppdgejjmhdjhaaGreatDoor
