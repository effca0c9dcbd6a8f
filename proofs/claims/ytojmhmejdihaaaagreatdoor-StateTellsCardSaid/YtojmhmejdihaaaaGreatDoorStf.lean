/- Parts of the proof, joined; conditions: those that its theorems name. -/
import Derived.Test.YtojmhmejdihaaaaGreatDoorStc
import Derived.Test.YtojmhmejdihaaaaGreatDoorStd
set_option linter.unusedVariables false
set_option linter.unusedSimpArgs false
set_option maxHeartbeats 4000000
namespace Go.Proofs.YtojmhmejdihaaaaGreatDoor
section
theorem nD(op:Int):aA Tryz.prog 204 [.int .i64 op] St.none (fun r _=>r=.int .i64 (parts op)):=by
 refine(aA.body 11 [.tmp 2] Tryz.func204 rfl rfl rfl rfl ?_)
 repeat' (first|(with_reducible first|(refine wN fun nl hnl=>?_;revert hnl;(repeat refine wS fun _ _=>?_);intro hnl)|refine wD (by decide +kernel) ?_|refine wI (fun h=>?_) fun h=>?_|refine wF (fun h=>?_) fun h=>?_|refine wG (fun h=>?_) fun h=>?_|refine wH (fun h=>?_) fun h=>?_|((first|refine aG (fun h=>?_) fun h=>?_|refine aE (fun h=>?_) fun h=>?_)<;>simp only[h]))|simp(maxSteps:=4000000) (disch:=first|decide|assumption|omega|(simp only[wL];omega)) only[go_sem,simprocAttr,Tryz.f204])
 all_goals simp[parts, *]
theorem qX(kd n:Int)(s:ByteArray):aA Tryz.prog 203 [.agg [.int .i64 kd,.int .i64 n,.str s]] St.none (fun r _=>r=.bool (gZ ⟨kd,n,s⟩)):=by
 refine(aA.body 41 [.tmp 2] Tryz.func203 rfl rfl rfl rfl ?_)
 repeat' (first|(with_reducible first|(refine wN fun nl hnl=>?_;revert hnl;(repeat refine wS fun _ _=>?_);intro hnl)|refine wD (by decide +kernel) ?_|refine wI (fun h=>?_) fun h=>?_|refine wF (fun h=>?_) fun h=>?_|refine wG (fun h=>?_) fun h=>?_|refine wH (fun h=>?_) fun h=>?_|((first|refine aG (fun h=>?_) fun h=>?_|refine aE (fun h=>?_) fun h=>?_)<;>simp only[h]))|simp(maxSteps:=4000000) (disch:=first|decide|assumption|omega|(simp only[wL];omega)) only[go_sem,simprocAttr,Tryz.f203])
 all_goals simp[gZ,va0, *]
 all_goals omega
set_option maxHeartbeats 2000000 in
theorem FA (x:ND):aA Tryz.prog 115 [.agg x.c] St.none (fun r _=>r=.bool (eN x)):=by
 refine(aA.body 86 [.tmp 2] Tryz.func115 rfl rfl rfl rfl ?_)
 obtain⟨op,n,kd,vn,s⟩:=x
 repeat' (first|(with_reducible refine bB (qX _ _ _) ?_)|(with_reducible first|(refine wN fun nl hnl=>?_;revert hnl;(repeat refine wS fun _ _=>?_);intro hnl)|refine wD (by decide +kernel) ?_|refine wI (fun h=>?_) fun h=>?_|refine wF (fun h=>?_) fun h=>?_|refine wG (fun h=>?_) fun h=>?_|refine wH (fun h=>?_) fun h=>?_|((first|refine aG (fun h=>?_) fun h=>?_|refine aE (fun h=>?_) fun h=>?_)<;>simp only[h]))|simp(maxSteps:=4000000) (disch:=first|decide|assumption|omega|(simp only[wL];omega)) only[go_sem,simprocAttr,Tryz.f115])
 all_goals first
  | (simp[eN,va0, *];done)
  | (simp[eN,va0, *];omega)
  | (simp[eN,va0, *];rintro rfl rfl rfl;rename_i h;revert h;simp[gZ,va0])
theorem yX{l:List ND}{n j:Nat}(h:j<l.length):hQ (n+1) (l.drop j)=(hQ (n+parts (l.getD j nd0).op) (l.drop (j+1))).map (·+1):=by
 rw[List.drop_eq_getElem_cons h]
 have:l.getD j nd0=l[j]:=by simp[List.getD,h]
 rw[this]
 rfl
theorem oA(l:List ND)(hl:l.length≤1000000)(t:Bool)(i:Int):aA Tryz.prog 116 [.lst 5 (l.map ND.c) t,.int .i64 i] St.none (fun r _=>r=.int .i64 (gK l i)):=by
 refine(aA.body 30 [.tmp 4] Tryz.func116 rfl rfl rfl rfl ?_)
 by_cases hi:i<0
 ·repeat' (first|(with_reducible first|(refine wN fun nl hnl=>?_;revert hnl;(repeat refine wS fun _ _=>?_);intro hnl)|refine wD (by decide +kernel) ?_|refine wI (fun h=>?_) fun h=>?_|refine wF (fun h=>?_) fun h=>?_|refine wG (fun h=>?_) fun h=>?_|refine wH (fun h=>?_) fun h=>?_|((first|refine aG (fun h=>?_) fun h=>?_|refine aE (fun h=>?_) fun h=>?_)<;>simp only[h]))|simp(maxSteps:=4000000) (disch:=first|decide|assumption|omega|(simp only[wL];omega)) only[go_sem,simprocAttr,Tryz.f116])
  simp[gK,hi]
 ·obtain⟨i,rfl⟩:∃k:Nat,i=k:=⟨i.toNat,by omega⟩
  repeat' (first|(with_reducible first|(refine wN fun nl hnl=>?_;revert hnl;(repeat refine wS fun _ _=>?_);intro hnl)|refine wD (by decide +kernel) ?_|refine wI (fun h=>?_) fun h=>?_|refine wF (fun h=>?_) fun h=>?_|refine wG (fun h=>?_) fun h=>?_|refine wH (fun h=>?_) fun h=>?_|((first|refine aG (fun h=>?_) fun h=>?_|refine aE (fun h=>?_) fun h=>?_)<;>simp only[h]))|simp(maxSteps:=4000000) (disch:=first|decide|assumption|omega|(simp only[wL];omega)) only[go_sem,simprocAttr,Tryz.f116])
  refine aD (α:=Nat × Nat) (fun a=>⟨30,[(5,.int .i64 (a.2:Int)),(0,.lst 5 (l.map ND.c) t),(1,.int .i64 (a.1:Int))],[]⟩) (fun _=>St.none)
   (fun a=>i≤a.1∧a.1≤max i l.length∧a.2≤1+a.1∧hQ 1 (l.drop i)=(hQ a.2 (l.drop a.1)).map (·+(a.1 - i))) (fun a=>l.length - a.1) (.of (.less ?_ (St.le_refl _)) ⟨(i,1),rfl,rfl,?_⟩) ?_
  ·simp(maxSteps:=4000000) (disch:=first|decide|assumption|omega|(simp only[wL];omega)) only[go_sem,simprocAttr,aC,aB]
   all_goals rfl
  ·simp
   omega
  ·rintro⟨j,n⟩ ⟨h1,h2,h3,h4⟩
   simp only at h1 h2 h3 h4 ⊢
   by_cases hj:j<l.length
   ·rcases Nat.eq_zero_or_pos n with hn|hn
    ·subst hn
     repeat' (first|(with_reducible first|(refine wN fun nl hnl=>?_;revert hnl;(repeat refine wS fun _ _=>?_);intro hnl)|refine wD (by decide +kernel) ?_|refine wI (fun h=>?_) fun h=>?_|refine wF (fun h=>?_) fun h=>?_|refine wG (fun h=>?_) fun h=>?_|refine wH (fun h=>?_) fun h=>?_|((first|refine aG (fun h=>?_) fun h=>?_|refine aE (fun h=>?_) fun h=>?_)<;>simp only[h]))|simp(maxSteps:=4000000) (disch:=first|decide|assumption|omega|(simp only[wL];omega)) only[go_sem,simprocAttr,aU nd0,ND.c])
     simp only[gK,h4,hQ,Option.map_some,Int.toNat_natCast]
     rw[if_neg hi]
     simp only[MV.int.injEq,true_and]
     omega
    ·obtain⟨m,rfl⟩:∃m,n=m+1:=⟨n - 1,by omega⟩
     have hp:=iW (l.getD j nd0).op
     repeat' (first|(with_reducible refine bB (nD _) ?_)|(with_reducible first|(refine wN fun nl hnl=>?_;revert hnl;(repeat refine wS fun _ _=>?_);intro hnl)|refine wD (by decide +kernel) ?_|refine wI (fun h=>?_) fun h=>?_|refine wF (fun h=>?_) fun h=>?_|refine wG (fun h=>?_) fun h=>?_|refine wH (fun h=>?_) fun h=>?_|((first|refine aG (fun h=>?_) fun h=>?_|refine aE (fun h=>?_) fun h=>?_)<;>simp only[h]))|simp(maxSteps:=4000000) (disch:=first|decide|assumption|omega|(simp only[wL];omega)) only[go_sem,simprocAttr,aU nd0,ND.c])
     refine .of (.less (l1:=[(5,.int .i64 ((m+parts (l.getD j nd0).op:Nat):Int)),(0,.lst 5 (l.map ND.c) t),(1,.int .i64 ((j+1:Nat):Int))]) ?_ (St.le_refl _)) ⟨(j+1,m+parts (l.getD j nd0).op),rfl,rfl,⟨by simp only;omega,by simp only;omega,by simp only;omega,?_⟩,by simp only;omega⟩
     ·simp(maxSteps:=4000000) (disch:=first|decide|assumption|omega|(simp only[wL];omega)) only[go_sem,simprocAttr,aC,aB]
      all_goals omega
     ·rw[h4,yX hj]
      simp only[Option.map_map]
      congr 1
      funext k
      simp only[Function.comp]
      omega
   ·have hd:l.drop j=[]:=List.drop_eq_nil_of_le (by omega)
    rw[hd] at h4
    rcases Nat.eq_zero_or_pos n with hn|hn
    ·subst hn
     repeat' (first|(with_reducible first|(refine wN fun nl hnl=>?_;revert hnl;(repeat refine wS fun _ _=>?_);intro hnl)|refine wD (by decide +kernel) ?_|refine wI (fun h=>?_) fun h=>?_|refine wF (fun h=>?_) fun h=>?_|refine wG (fun h=>?_) fun h=>?_|refine wH (fun h=>?_) fun h=>?_|((first|refine aG (fun h=>?_) fun h=>?_|refine aE (fun h=>?_) fun h=>?_)<;>simp only[h]))|simp(maxSteps:=4000000) (disch:=first|decide|assumption|omega|(simp only[wL];omega)) only[go_sem,simprocAttr,aU nd0,ND.c])
     simp only[gK,h4,hQ,Option.map_some,Int.toNat_natCast]
     rw[if_neg hi]
     simp only[MV.int.injEq,true_and]
     omega
    ·obtain⟨m,rfl⟩:∃m,n=m+1:=⟨n - 1,by omega⟩
     repeat' (first|(with_reducible first|(refine wN fun nl hnl=>?_;revert hnl;(repeat refine wS fun _ _=>?_);intro hnl)|refine wD (by decide +kernel) ?_|refine wI (fun h=>?_) fun h=>?_|refine wF (fun h=>?_) fun h=>?_|refine wG (fun h=>?_) fun h=>?_|refine wH (fun h=>?_) fun h=>?_|((first|refine aG (fun h=>?_) fun h=>?_|refine aE (fun h=>?_) fun h=>?_)<;>simp only[h]))|simp(maxSteps:=4000000) (disch:=first|decide|assumption|omega|(simp only[wL];omega)) only[go_sem,simprocAttr,aU nd0,ND.c])
     simp only[gK,h4,hQ,Option.map_none,Int.toNat_natCast]
     rw[if_neg hi]
theorem wJ(a b:List ND)(hl:a.length≤1000000)(ta tb:Bool):aA Tryz.prog 71 [.lst 5 (a.map ND.c) ta,.lst 5 (b.map ND.c) tb] St.none (fun r _=>r=.bool (decide (a=b))):=by
 refine(aA.body 26 [.tmp 4] Tryz.func71 rfl rfl rfl rfl ?_)
 by_cases hlen:a.length=b.length
 ·repeat' (first|(with_reducible first|(refine wN fun nl hnl=>?_;revert hnl;(repeat refine wS fun _ _=>?_);intro hnl)|refine wD (by decide +kernel) ?_|refine wI (fun h=>?_) fun h=>?_|refine wF (fun h=>?_) fun h=>?_|refine wG (fun h=>?_) fun h=>?_|refine wH (fun h=>?_) fun h=>?_|((first|refine aG (fun h=>?_) fun h=>?_|refine aE (fun h=>?_) fun h=>?_)<;>simp only[h]))|simp(maxSteps:=4000000) (disch:=first|decide|assumption|omega|(simp only[wL];omega)) only[go_sem,simprocAttr,Tryz.f71])
  refine aD (α:=Nat) (fun i=>⟨26,[(5,.int .i64 (i:Int)),(0,.lst 5 (a.map ND.c) ta),(1,.lst 5 (b.map ND.c) tb)],[]⟩) (fun _=>St.none)
   (fun i=>i≤a.length∧a.take i=b.take i) (fun i=>a.length - i) (.of (.less ?_ (St.le_refl _)) ⟨0,rfl,rfl,by simp⟩) ?_
  ·simp(maxSteps:=4000000) (disch:=first|decide|assumption|omega|(simp only[wL];omega)) only[go_sem,simprocAttr,aC,aB]
   all_goals rfl
  ·rintro i ⟨h1,h2⟩
   by_cases hi:i<a.length
   ·repeat' (first|(with_reducible first|(refine wN fun nl hnl=>?_;revert hnl;(repeat refine wS fun _ _=>?_);intro hnl)|refine wD (by decide +kernel) ?_|refine wI (fun h=>?_) fun h=>?_|refine wF (fun h=>?_) fun h=>?_|refine wG (fun h=>?_) fun h=>?_|refine wH (fun h=>?_) fun h=>?_|((first|refine aG (fun h=>?_) fun h=>?_|refine aE (fun h=>?_) fun h=>?_)<;>simp only[h]))|simp(maxSteps:=4000000) (disch:=first|decide|assumption|omega|(simp only[wL];omega)) only[go_sem,simprocAttr,aU nd0,ND.c])
    ·have:a≠b:=fun e=>h (by rw[e];exact⟨rfl,rfl,rfl,rfl,rfl⟩)
     simp[this]
    ·have he:=OV (Classical.not_not.1 h)
     refine .of (.less (l1:=[(5,.int .i64 ((i+1:Nat):Int)),(0,.lst 5 (a.map ND.c) ta),(1,.lst 5 (b.map ND.c) tb)]) ?_ (St.le_refl _)) ⟨i+1,rfl,rfl,⟨by omega,?_⟩,by omega⟩
     ·simp(maxSteps:=4000000) (disch:=first|decide|assumption|omega|(simp only[wL];omega)) only[go_sem,simprocAttr,aC,aB]
      all_goals omega
     ·rw[List.take_succ_eq_append_getElem hi,List.take_succ_eq_append_getElem (by omega),h2,←aZ nd0 hi,←aZ nd0 (by omega),he]
   ·have:i=a.length:=by omega
    subst this
    rw[List.take_length,hlen,List.take_length] at h2
    repeat' (first|(with_reducible first|(refine wN fun nl hnl=>?_;revert hnl;(repeat refine wS fun _ _=>?_);intro hnl)|refine wD (by decide +kernel) ?_|refine wI (fun h=>?_) fun h=>?_|refine wF (fun h=>?_) fun h=>?_|refine wG (fun h=>?_) fun h=>?_|refine wH (fun h=>?_) fun h=>?_|((first|refine aG (fun h=>?_) fun h=>?_|refine aE (fun h=>?_) fun h=>?_)<;>simp only[h]))|simp(maxSteps:=4000000) (disch:=first|decide|assumption|omega|(simp only[wL];omega)) only[go_sem,simprocAttr,aU nd0,ND.c])
    simp[h2]
 ·repeat' (first|(with_reducible first|(refine wN fun nl hnl=>?_;revert hnl;(repeat refine wS fun _ _=>?_);intro hnl)|refine wD (by decide +kernel) ?_|refine wI (fun h=>?_) fun h=>?_|refine wF (fun h=>?_) fun h=>?_|refine wG (fun h=>?_) fun h=>?_|refine wH (fun h=>?_) fun h=>?_|((first|refine aG (fun h=>?_) fun h=>?_|refine aE (fun h=>?_) fun h=>?_)<;>simp only[h]))|simp(maxSteps:=4000000) (disch:=first|decide|assumption|omega|(simp only[wL];omega)) only[go_sem,simprocAttr,Tryz.f71])
  have:a≠b:=fun e=>hlen (by rw[e])
  simp[this]
end

section
theorem nB(a b:Int):aA Tryz.prog 357 [.int .i64 a,.int .i64 b] St.none (fun r _=>r=.int .i64 (dK (cmpL [a] [b]))):=by
 refine(aA.body 11 [.tmp 4] Tryz.func357 rfl rfl rfl rfl ?_)
 repeat' (first|(with_reducible first|(refine wN fun nl hnl=>?_;revert hnl;(repeat refine wS fun _ _=>?_);intro hnl)|refine wD (by decide +kernel) ?_|refine wI (fun h=>?_) fun h=>?_|refine wF (fun h=>?_) fun h=>?_|refine wG (fun h=>?_) fun h=>?_|refine wH (fun h=>?_) fun h=>?_|((first|refine aG (fun h=>?_) fun h=>?_|refine aE (fun h=>?_) fun h=>?_)<;>simp only[h]))|simp(maxSteps:=4000000) (disch:=first|exact ddL|fail) only[go_sem,simprocAttr,Tryz.f357])
 all_goals simp[cmpL,dK, *]
theorem wO(a b:VA)(ha:a.s.size≤1000000)(hb:b.s.size≤1000000):aA Tryz.prog 328 [.agg a.c,.agg b.c] St.none (fun r _=>r=.int .i64 (dK (cmpL a.key b.key))):=by
 refine(aA.body 67 [.tmp 4] Tryz.func328 rfl rfl rfl rfl ?_)
 repeat' (first|(with_reducible refine bB (nB _ _) ?_)|(with_reducible first|(refine wN fun nl hnl=>?_;revert hnl;(repeat refine wS fun _ _=>?_);intro hnl)|refine wD (by decide +kernel) ?_|refine wI (fun h=>?_) fun h=>?_|refine wF (fun h=>?_) fun h=>?_|refine wG (fun h=>?_) fun h=>?_|refine wH (fun h=>?_) fun h=>?_|((first|refine aG (fun h=>?_) fun h=>?_|refine aE (fun h=>?_) fun h=>?_)<;>simp only[h]))|simp(maxSteps:=4000000) (disch:=first|exact ddL|fail) only[go_sem,simprocAttr,Tryz.f328])
 ·rw[show cmpL a.key b.key=cmpL [a.kd] [b.kd] from lL h]
 ·have h1:=Classical.not_not.1 ‹¬¬a.kd=b.kd›
  have:cmpL a.key b.key=cmpL [a.n] [b.n]:=by
   rw[VA.key,VA.key,h1,gG,lL h]
  rw[this]
 ·have h1:=Classical.not_not.1 ‹¬¬a.kd=b.kd›
  have h2:=Classical.not_not.1 ‹¬¬a.n=b.n›
  have hk:cmpL a.key b.key=cmpL (bk a.s) (bk b.s):=by
   rw[VA.key,VA.key,h1,gG,h2,gG];rfl
  rw[hk]
  rename_i pa hpa _ _ _
  refine aD (α:=Nat) (fun i=>⟨67,[(5,.int .i64 (i:Int)),(3,.ptr nl 0 0),(2,.ptr pa 0 0)],[]⟩) (fun _=>(St.none.set pa (.row 49 3 [a.c])).set nl (.row 49 3 [b.c]))
   (fun i=>i≤a.s.size∧i≤b.s.size∧cmpL (bk a.s) (bk b.s)=cmpL ((bk a.s).drop i) ((bk b.s).drop i)) (fun i=>a.s.size - i) (.of (.less ?_ (St.le_refl _)) ⟨0,rfl,rfl,by simp⟩) ?_
  ·simp(maxSteps:=4000000) (disch:=first|exact ddL|fail) only[go_sem,simprocAttr,aC,aB]
   all_goals rfl
  ·rintro i ⟨h3,h4,h5⟩
   by_cases hi:i<a.s.size∧i<b.s.size
   ·obtain⟨hi1,hi2⟩:=hi
    rw[tL hi1,tL hi2] at h5
    have hc1:((a.s.toList.getD i 0).toNat:Int)≤255:=by have:=(a.s.toList.getD i 0).toNat_lt;omega
    have hc2:((b.s.toList.getD i 0).toNat:Int)≤255:=by have:=(b.s.toList.getD i 0).toNat_lt;omega
    have hc3:0≤((a.s.toList.getD i 0).toNat:Int):=by omega
    have hc4:0≤((b.s.toList.getD i 0).toNat:Int):=by omega
    obtain⟨ca,hca⟩:∃c:Int,((a.s.toList.getD i 0).toNat:Int)=c:=⟨_,rfl⟩
    obtain⟨cb,hcb⟩:∃c:Int,((b.s.toList.getD i 0).toNat:Int)=c:=⟨_,rfl⟩
    rw[hca] at h5 hc1 hc3
    rw[hcb] at h5 hc2 hc4
    by_cases hcc:ca=cb
    ·rw[hcc,gG] at h5
     repeat' (first|(with_reducible first|(refine wN fun nl hnl=>?_;revert hnl;(repeat refine wS fun _ _=>?_);intro hnl)|refine wD (by decide +kernel) ?_|refine wI (fun h=>?_) fun h=>?_|refine wF (fun h=>?_) fun h=>?_|refine wG (fun h=>?_) fun h=>?_|refine wH (fun h=>?_) fun h=>?_|((first|refine aG (fun h=>?_) fun h=>?_|refine aE (fun h=>?_) fun h=>?_)<;>simp only[h]))|simp(maxSteps:=4000000) (disch:=first|exact ddL|fail) only[go_sem,simprocAttr,hca,hcb])
     refine .of (.less (l1:=[(5,.int .i64 ((i+1:Nat):Int)),(3,.ptr nl 0 0),(2,.ptr pa 0 0)]) ?_ (St.le_refl _)) ⟨i+1,rfl,rfl,⟨by omega,by omega,h5⟩,by omega⟩
     simp(maxSteps:=4000000) (disch:=first|exact ddL|fail) only[go_sem,simprocAttr,aC,aB]
     all_goals omega
    ·repeat' (first|(with_reducible refine aJ mixed (by decide +kernel) (fun g ms=>if g=357 then some ⟨[],fun v=>v=.int .i64 (dK (cmpL [ca] [cb])),none⟩ else none) ?_)|(with_reducible refine aF rfl (nB _ _) ?_)|(with_reducible first|(refine wN fun nl hnl=>?_;revert hnl;(repeat refine wS fun _ _=>?_);intro hnl)|refine wD (by decide +kernel) ?_|refine wI (fun h=>?_) fun h=>?_|refine wF (fun h=>?_) fun h=>?_|refine wG (fun h=>?_) fun h=>?_|refine wH (fun h=>?_) fun h=>?_|((first|refine aG (fun h=>?_) fun h=>?_|refine aE (fun h=>?_) fun h=>?_)<;>simp only[h]))|simp(maxSteps:=4000000) (disch:=first|exact ddL|fail) only[go_sem,simprocAttr,hca,hcb])
     rw[h5,lL (x:=(bk a.s).drop (i+1)) (y:=(bk b.s).drop (i+1)) hcc]
   ·have key:cmpL (bk a.s) (bk b.s)=cmpL [(a.s.size:Int)] [(b.s.size:Int)]:=by
     rw[h5]
     by_cases h6:i<a.s.size
     ·have h7:i=b.s.size:=by omega
      rw[tL h6,mF (s:=b.s) (n:=i) (by omega)]
      simp only[cmpL]
      rw[if_neg (by omega),if_pos (by omega)]
     ·have h7:i=a.s.size:=by omega
      rw[mF (s:=a.s) (n:=i) (by omega)]
      by_cases h8:i<b.s.size
      ·rw[tL h8]
       simp only[cmpL]
       rw[if_pos (by omega)]
      ·rw[mF (s:=b.s) (n:=i) (by omega)]
       simp only[cmpL]
       rw[if_neg (by omega),if_neg (by omega)]
    repeat' (first|(with_reducible refine bB (nB _ _) ?_)|(with_reducible first|(refine wN fun nl hnl=>?_;revert hnl;(repeat refine wS fun _ _=>?_);intro hnl)|refine wD (by decide +kernel) ?_|refine wI (fun h=>?_) fun h=>?_|refine wF (fun h=>?_) fun h=>?_|refine wG (fun h=>?_) fun h=>?_|refine wH (fun h=>?_) fun h=>?_|((first|refine aG (fun h=>?_) fun h=>?_|refine aE (fun h=>?_) fun h=>?_)<;>simp only[h]))|simp(maxSteps:=4000000) (disch:=first|exact ddL|fail) only[go_sem,simprocAttr])
    all_goals rw[key]
end

section
theorem gD(op:Int):aA Tryz.prog 267 [.int .i64 op] St.none (fun r _=>r=.int .i64 (parts op)):=by
 refine(aA.body 9 [.tmp 2] Tryz.func267 rfl rfl rfl rfl ?_)
 repeat' (first|(with_reducible first|(refine wN fun nl hnl=>?_;revert hnl;(repeat refine wS fun _ _=>?_);intro hnl)|refine wD (by decide +kernel) ?_|refine wI (fun h=>?_) fun h=>?_|refine wF (fun h=>?_) fun h=>?_|refine wG (fun h=>?_) fun h=>?_|refine wH (fun h=>?_) fun h=>?_|((first|refine aG (fun h=>?_) fun h=>?_|refine aE (fun h=>?_) fun h=>?_)<;>simp only[h]))|simp(maxSteps:=4000000) (disch:=first|decide|assumption|omega|(simp only[wL];omega)) only[go_sem,simprocAttr,Tryz.f267])
 all_goals simp[parts, *]
theorem tE(kd n:Int)(s:ByteArray):aA Tryz.prog 263 [.agg [.int .i64 kd,.int .i64 n,.str s]] St.none (fun r _=>r=.bool (gZ ⟨kd,n,s⟩)):=by
 refine(aA.body 36 [.tmp 2] Tryz.func263 rfl rfl rfl rfl ?_)
 repeat' (first|(with_reducible first|(refine wN fun nl hnl=>?_;revert hnl;(repeat refine wS fun _ _=>?_);intro hnl)|refine wD (by decide +kernel) ?_|refine wI (fun h=>?_) fun h=>?_|refine wF (fun h=>?_) fun h=>?_|refine wG (fun h=>?_) fun h=>?_|refine wH (fun h=>?_) fun h=>?_|((first|refine aG (fun h=>?_) fun h=>?_|refine aE (fun h=>?_) fun h=>?_)<;>simp only[h]))|simp(maxSteps:=4000000) (disch:=first|decide|assumption|omega|(simp only[wL];omega)) only[go_sem,simprocAttr,Tryz.f263])
 all_goals first
  | (simp[gZ,va0, *];done)
  | (simp[gZ,va0, *];omega)
theorem sO(a:Int):aA Tryz.prog 307 [.int .i64 a] St.none (fun r _=>r=.bool false):=by
 refine(aA.body 6 [.tmp 2] Tryz.func307 rfl rfl rfl rfl ?_)
 repeat' (first|(with_reducible first|(refine wN fun nl hnl=>?_;revert hnl;(repeat refine wS fun _ _=>?_);intro hnl)|refine wD (by decide +kernel) ?_|refine wI (fun h=>?_) fun h=>?_|refine wF (fun h=>?_) fun h=>?_|refine wG (fun h=>?_) fun h=>?_|refine wH (fun h=>?_) fun h=>?_|((first|refine aG (fun h=>?_) fun h=>?_|refine aE (fun h=>?_) fun h=>?_)<;>simp only[h]))|simp(maxSteps:=4000000) (disch:=first|decide|assumption|omega|(simp only[wL];omega)) only[go_sem,simprocAttr,Tryz.f307,lM])
theorem CP(a:ByteArray):aA Tryz.prog 350 [.str a] St.none (fun r _=>r=.bool false):=by
 refine(aA.body 6 [.tmp 2] Tryz.func350 rfl rfl rfl rfl ?_)
 repeat' (first|(with_reducible first|(refine wN fun nl hnl=>?_;revert hnl;(repeat refine wS fun _ _=>?_);intro hnl)|refine wD (by decide +kernel) ?_|refine wI (fun h=>?_) fun h=>?_|refine wF (fun h=>?_) fun h=>?_|refine wG (fun h=>?_) fun h=>?_|refine wH (fun h=>?_) fun h=>?_|((first|refine aG (fun h=>?_) fun h=>?_|refine aE (fun h=>?_) fun h=>?_)<;>simp only[h]))|simp(maxSteps:=4000000) (disch:=first|decide|assumption|omega|(simp only[wL];omega)) only[go_sem,simprocAttr,Tryz.f350,lM])
theorem kH(a b:Int):aA Tryz.prog 259 [.int .i64 a,.int .i64 b] St.none (fun r _=>r=.int .i64 (dK (cmpL [a] [b]))):=by
 refine(aA.body 20 [.tmp 4] Tryz.func259 rfl rfl rfl rfl ?_)
 repeat' (first|(with_reducible refine bB (sO _) ?_)|(with_reducible first|(refine wN fun nl hnl=>?_;revert hnl;(repeat refine wS fun _ _=>?_);intro hnl)|refine wD (by decide +kernel) ?_|refine wI (fun h=>?_) fun h=>?_|refine wF (fun h=>?_) fun h=>?_|refine wG (fun h=>?_) fun h=>?_|refine wH (fun h=>?_) fun h=>?_|((first|refine aG (fun h=>?_) fun h=>?_|refine aE (fun h=>?_) fun h=>?_)<;>simp only[h]))|simp(maxSteps:=4000000) (disch:=first|decide|assumption|omega|(simp only[wL];omega)) only[go_sem,simprocAttr,Tryz.f259])
 all_goals simp[cmpL,dK, *]
theorem mI(a b:ByteArray):aA Tryz.prog 308 [.str a,.str b] St.none (fun r _=>r=.int .i64 (dK (cmpL (bk a) (bk b)))):=by
 refine(aA.body 20 [.tmp 4] Tryz.func308 rfl rfl rfl rfl ?_)
 have hb:=oJ a.toList b.toList
 change _=decide (cmpL (bk a) (bk b)=.lt) at hb
 repeat' (first|(with_reducible refine bB (CP _) ?_)|(with_reducible first|(refine wN fun nl hnl=>?_;revert hnl;(repeat refine wS fun _ _=>?_);intro hnl)|refine wD (by decide +kernel) ?_|refine wI (fun h=>?_) fun h=>?_|refine wF (fun h=>?_) fun h=>?_|refine wG (fun h=>?_) fun h=>?_|refine wH (fun h=>?_) fun h=>?_|((first|refine aG (fun h=>?_) fun h=>?_|refine aE (fun h=>?_) fun h=>?_)<;>simp only[h]))|simp(maxSteps:=4000000) (disch:=first|decide|assumption|omega|(simp only[wL];omega)) only[go_sem,simprocAttr,Tryz.f308])
 ·rw[hb] at h
  simp only[decide_eq_true_eq] at h
  rw[h];rfl
 ·rename_i h0
  rw[hb] at h0
  simp only[decide_eq_false_iff_not] at h0
  simp only[Bool.not_eq_true',Bool.or_eq_false_iff,decide_eq_false_iff_not] at h
  have h1:cmpL (bk a) (bk b)≠.eq:=fun e=>h.2 (bytes_inj (cmpL_eq.1 e))
  cases e:cmpL (bk a) (bk b)
  ·exact absurd e h0
  ·exact absurd e h1
  ·rfl
 ·rename_i h0
  simp only[h0,Bool.false_or,Bool.not_eq_false',decide_eq_true_eq] at h
  rw[h,nT];rfl
theorem MI{l:List ND}{i:Int}(h:¬(i<0∨(l.length:Int)≤i)):gK l i=match hQ 1 (l.drop i.toNat) with
  | none=>-1
  | some k=>i+k:=by
 unfold gK
 rw[if_neg (by omega)]
 cases hQ 1 (l.drop i.toNat)<;>rfl
theorem zU(l:List ND)(hl:l.length≤1000000)(t:Bool)(i:Int):aA Tryz.prog 185 [.lst 5 (l.map ND.c) t,.int .i64 i] St.none (fun r _=>r=.int .i64 (gK l i)):=by
 refine(aA.body 38 [.tmp 4] Tryz.func185 rfl rfl rfl rfl ?_)
 by_cases hi:i<0∨(l.length:Int)≤i
 ·have he:gK l i = -1:=by
   unfold gK
   by_cases h0:i<0
   ·rw[if_pos h0]
   ·rw[if_neg h0,List.drop_eq_nil_of_le (by omega)];rfl
  rw[he]
  repeat' (first|(with_reducible first|(refine wN fun nl hnl=>?_;revert hnl;(repeat refine wS fun _ _=>?_);intro hnl)|refine wD (by decide +kernel) ?_|refine wI (fun h=>?_) fun h=>?_|refine wF (fun h=>?_) fun h=>?_|refine wG (fun h=>?_) fun h=>?_|refine wH (fun h=>?_) fun h=>?_|((first|refine aG (fun h=>?_) fun h=>?_|refine aE (fun h=>?_) fun h=>?_)<;>simp only[h]))|simp(maxSteps:=4000000) (disch:=first|decide|assumption|omega|(simp only[wL];omega)) only[go_sem,simprocAttr,Tryz.f185])
 ·obtain⟨m,hm⟩:∃m,l.drop i.toNat=m:=⟨_,rfl⟩
  have hml:l.length - i.toNat=m.length:=by rw[←hm];simp
  have hm0:m.length≤1000000:=by omega
  have hb:i+m.length≤1000000:=by omega
  have h0:0≤i:=by omega
  rw[MI hi,hm]
  repeat' (first|(with_reducible first|(refine wN fun nl hnl=>?_;revert hnl;(repeat refine wS fun _ _=>?_);intro hnl)|refine wD (by decide +kernel) ?_|refine wI (fun h=>?_) fun h=>?_|refine wF (fun h=>?_) fun h=>?_|refine wG (fun h=>?_) fun h=>?_|refine wH (fun h=>?_) fun h=>?_|((first|refine aG (fun h=>?_) fun h=>?_|refine aE (fun h=>?_) fun h=>?_)<;>simp only[h]))|simp(maxSteps:=4000000) (disch:=first|decide|assumption|omega|(simp only[wL];omega)) only[go_sem,simprocAttr,Tryz.f185,hm,hml])
  refine aD (α:=Nat × Nat) (fun a=>⟨38,[(20,.int .i64 (a.1:Int)),(19,.int .i64 (m.length:Int)),(18,.lst 5 (m.map ND.c) t),(5,.int .i64 (a.2:Int)),(1,.int .i64 i)],[]⟩) (fun _=>St.none)
   (fun a=>a.1≤m.length∧1≤a.2∧a.2≤1+a.1∧hQ 1 m=(hQ a.2 (m.drop a.1)).map (·+a.1)) (fun a=>m.length - a.1) (.of (.less ?_ (St.le_refl _)) ⟨(0,1),rfl,rfl,by simp⟩) ?_
  ·simp(maxSteps:=4000000) (disch:=first|decide|assumption|omega|(simp only[wL];omega)) only[go_sem,simprocAttr,aC,aB]
   all_goals omega
  ·rintro⟨k,n⟩ ⟨h1,h2,h3,h4⟩
   simp only at h1 h2 h3 h4 ⊢
   obtain⟨q,rfl⟩:∃q,n=q+1:=⟨n - 1,by omega⟩
   by_cases hk:k<m.length
   ·have hp:=iW (m.getD k nd0).op
    rw[yX hk] at h4
    obtain⟨pp,hpp⟩:∃pp:Nat,parts (m.getD k nd0).op=pp:=⟨_,rfl⟩
    rw[hpp] at h4 hp
    by_cases hz:q+pp=0
    ·rw[hz] at h4
     have hq:q=0:=by omega
     have hpz:pp=0:=by omega
     subst hq
     rw[hpz] at hpp
     repeat' (first|(with_reducible refine bB (gD _) ?_)|(with_reducible first|(refine wN fun nl hnl=>?_;revert hnl;(repeat refine wS fun _ _=>?_);intro hnl)|refine wD (by decide +kernel) ?_|refine wI (fun h=>?_) fun h=>?_|refine wF (fun h=>?_) fun h=>?_|refine wG (fun h=>?_) fun h=>?_|refine wH (fun h=>?_) fun h=>?_|((first|refine aG (fun h=>?_) fun h=>?_|refine aE (fun h=>?_) fun h=>?_)<;>simp only[h]))|simp(maxSteps:=4000000) (disch:=first|decide|assumption|omega|(simp only[wL];omega)) only[go_sem,simprocAttr,aU nd0,hpp])
     rw[h4]
     simp only[hQ,Option.map_some,MV.int.injEq,true_and]
     have e1:((0+1+k:Nat):Int)=(k:Int)+1:=by omega
     rw[e1,Int.add_assoc]
    ·repeat' (first|(with_reducible refine bB (gD _) ?_)|(with_reducible first|(refine wN fun nl hnl=>?_;revert hnl;(repeat refine wS fun _ _=>?_);intro hnl)|refine wD (by decide +kernel) ?_|refine wI (fun h=>?_) fun h=>?_|refine wF (fun h=>?_) fun h=>?_|refine wG (fun h=>?_) fun h=>?_|refine wH (fun h=>?_) fun h=>?_|((first|refine aG (fun h=>?_) fun h=>?_|refine aE (fun h=>?_) fun h=>?_)<;>simp only[h]))|simp(maxSteps:=4000000) (disch:=first|decide|assumption|omega|(simp only[wL];omega)) only[go_sem,simprocAttr,aU nd0,hpp])
     refine .of (.less (l1:=[(20,.int .i64 ((k+1:Nat):Int)),(19,.int .i64 (m.length:Int)),(18,.lst 5 (m.map ND.c) t),(5,.int .i64 ((q+pp:Nat):Int)),(1,.int .i64 i)]) ?_ (St.none_le _)) ⟨(k+1,q+pp),rfl,rfl,⟨by simp only;omega,by simp only;omega,by simp only;omega,?_⟩,by simp only;omega⟩
     ·simp(maxSteps:=4000000) (disch:=first|decide|assumption|omega|(simp only[wL];omega)) only[go_sem,simprocAttr,aC,aB]
      all_goals omega
     ·rw[h4]
      simp only[Option.map_map]
      congr 1
      funext k
      simp only[Function.comp]
      omega
   ·rw[List.drop_eq_nil_of_le (by omega)] at h4
    rw[h4]
    repeat' (first|(with_reducible first|(refine wN fun nl hnl=>?_;revert hnl;(repeat refine wS fun _ _=>?_);intro hnl)|refine wD (by decide +kernel) ?_|refine wI (fun h=>?_) fun h=>?_|refine wF (fun h=>?_) fun h=>?_|refine wG (fun h=>?_) fun h=>?_|refine wH (fun h=>?_) fun h=>?_|((first|refine aG (fun h=>?_) fun h=>?_|refine aE (fun h=>?_) fun h=>?_)<;>simp only[h]))|simp(maxSteps:=4000000) (disch:=first|decide|assumption|omega|(simp only[wL];omega)) only[go_sem,simprocAttr,aU nd0])
    rfl
theorem Ep(p:ND→Bool)(g:FuncId)(l:List ND)(hl:l.length≤1000000)(t:Bool)(hg:∀x,x∈l→aA Tryz.prog g [.agg x.c] St.none (fun r _=>r=.bool (p x))) :
  aA Tryz.prog 268 [.lst 5 (l.map ND.c) t,.fn (.func g) [] []] St.none (fun r _=>r=.int .i64 (if l.any p then(l.findIdx p:Int) else -1)):=by
 refine(aA.body 19 [.tmp 4] Tryz.func268 rfl rfl rfl rfl ?_)
 repeat' (first|(with_reducible first|(refine wN fun nl hnl=>?_;revert hnl;(repeat refine wS fun _ _=>?_);intro hnl)|refine wD (by decide +kernel) ?_|refine wI (fun h=>?_) fun h=>?_|refine wF (fun h=>?_) fun h=>?_|refine wG (fun h=>?_) fun h=>?_|refine wH (fun h=>?_) fun h=>?_|((first|refine aG (fun h=>?_) fun h=>?_|refine aE (fun h=>?_) fun h=>?_)<;>simp only[h]))|simp(maxSteps:=4000000) (disch:=first|decide|assumption|omega|(simp only[wL];omega)) only[go_sem,simprocAttr,Tryz.f268])
 refine aD (α:=Nat) (fun k=>⟨19,[(8,.int .i64 (k:Int)),(7,.int .i64 (l.length:Int)),(6,.lst 5 (l.map ND.c) t),(0,.lst 5 (l.map ND.c) t),(1,.fn (.func g) [] [])],[]⟩) (fun _=>St.none)
  (fun k=>k≤l.length∧(l.take k).any p=false) (fun k=>l.length - k) (.of (.less ?_ (St.le_refl _)) ⟨0,rfl,rfl,by simp⟩) ?_
 ·simp(maxSteps:=4000000) (disch:=first|decide|assumption|omega|(simp only[wL];omega)) only[go_sem,simprocAttr,aC,aB]
  all_goals rfl
 ·rintro k ⟨h1,h2⟩
  by_cases hk:k<l.length
  ·have hgk:=hg _ (bK nd0 hk)
   cases hp:p (l.getD k nd0)
   ·rw[hp] at hgk
    repeat' (first|(with_reducible refine bB hgk ?_)|(with_reducible first|(refine wN fun nl hnl=>?_;revert hnl;(repeat refine wS fun _ _=>?_);intro hnl)|refine wD (by decide +kernel) ?_|refine wI (fun h=>?_) fun h=>?_|refine wF (fun h=>?_) fun h=>?_|refine wG (fun h=>?_) fun h=>?_|refine wH (fun h=>?_) fun h=>?_|((first|refine aG (fun h=>?_) fun h=>?_|refine aE (fun h=>?_) fun h=>?_)<;>simp only[h]))|simp(maxSteps:=4000000) (disch:=first|decide|assumption|omega|(simp only[wL];omega)) only[go_sem,simprocAttr,aU nd0])
    refine .of (.less (l1:=[(8,.int .i64 ((k+1:Nat):Int)),(7,.int .i64 (l.length:Int)),(6,.lst 5 (l.map ND.c) t),(0,.lst 5 (l.map ND.c) t),(1,.fn (.func g) [] [])]) ?_ (St.le_refl _)) ⟨k+1,rfl,rfl,⟨by omega,?_⟩,by omega⟩
    ·simp(maxSteps:=4000000) (disch:=first|decide|assumption|omega|(simp only[wL];omega)) only[go_sem,simprocAttr,aC,aB]
     all_goals omega
    ·rw[kQ hk,h2,←aZ nd0 hk,hp];rfl
   ·rw[hp] at hgk
    have hany:l.any p=true:=List.any_eq_true.2 ⟨_,bK nd0 hk,hp⟩
    have hf:l.findIdx p=k:=by
     rw[List.findIdx_eq hk]
     refine⟨by rw[←aZ nd0 hk];exact hp,fun j hj=>?_⟩
     have:=List.any_eq_false.1 h2 l[j] (by rw[List.mem_take_iff_getElem];exact⟨j,by omega,rfl⟩)
     simpa using this
    rw[hany,hf]
    repeat' (first|(with_reducible refine bB hgk ?_)|(with_reducible first|(refine wN fun nl hnl=>?_;revert hnl;(repeat refine wS fun _ _=>?_);intro hnl)|refine wD (by decide +kernel) ?_|refine wI (fun h=>?_) fun h=>?_|refine wF (fun h=>?_) fun h=>?_|refine wG (fun h=>?_) fun h=>?_|refine wH (fun h=>?_) fun h=>?_|((first|refine aG (fun h=>?_) fun h=>?_|refine aE (fun h=>?_) fun h=>?_)<;>simp only[h]))|simp(maxSteps:=4000000) (disch:=first|decide|assumption|omega|(simp only[wL];omega)) only[go_sem,simprocAttr,aU nd0])
  ·have:k=l.length:=by omega
   subst this
   rw[List.take_length] at h2
   rw[h2]
   repeat' (first|(with_reducible first|(refine wN fun nl hnl=>?_;revert hnl;(repeat refine wS fun _ _=>?_);intro hnl)|refine wD (by decide +kernel) ?_|refine wI (fun h=>?_) fun h=>?_|refine wF (fun h=>?_) fun h=>?_|refine wG (fun h=>?_) fun h=>?_|refine wH (fun h=>?_) fun h=>?_|((first|refine aG (fun h=>?_) fun h=>?_|refine aE (fun h=>?_) fun h=>?_)<;>simp only[h]))|simp(maxSteps:=4000000) (disch:=first|decide|assumption|omega|(simp only[wL];omega)) only[go_sem,simprocAttr,aU nd0])
theorem xO(p:ND→Bool)(g:FuncId)(l:List ND)(hl:l.length≤1000000)(t:Bool)(hg:∀x,x∈l→aA Tryz.prog g [.agg x.c] St.none (fun r _=>r=.bool (p x))) :
  aA Tryz.prog 186 [.lst 5 (l.map ND.c) t,.fn (.func g) [] []] St.none (fun r _=>r=.bool (l.any p)):=by
 refine(aA.body 9 [.tmp 4] Tryz.func186 rfl rfl rfl rfl ?_)
 have hi:=Ep p g l hl t hg
 cases hany:l.any p
 ·rw[hany] at hi
  simp only[Bool.false_eq_true,if_false] at hi
  repeat' (first|(with_reducible refine bB hi ?_)|(with_reducible first|(refine wN fun nl hnl=>?_;revert hnl;(repeat refine wS fun _ _=>?_);intro hnl)|refine wD (by decide +kernel) ?_|refine wI (fun h=>?_) fun h=>?_|refine wF (fun h=>?_) fun h=>?_|refine wG (fun h=>?_) fun h=>?_|refine wH (fun h=>?_) fun h=>?_|((first|refine aG (fun h=>?_) fun h=>?_|refine aE (fun h=>?_) fun h=>?_)<;>simp only[h]))|simp(maxSteps:=4000000) (disch:=first|decide|assumption|omega|(simp only[wL];omega)) only[go_sem,simprocAttr,Tryz.f186])
 ·rw[hany] at hi
  simp only[if_true] at hi
  repeat' (first|(with_reducible refine bB hi ?_)|(with_reducible first|(refine wN fun nl hnl=>?_;revert hnl;(repeat refine wS fun _ _=>?_);intro hnl)|refine wD (by decide +kernel) ?_|refine wI (fun h=>?_) fun h=>?_|refine wF (fun h=>?_) fun h=>?_|refine wG (fun h=>?_) fun h=>?_|refine wH (fun h=>?_) fun h=>?_|((first|refine aG (fun h=>?_) fun h=>?_|refine aE (fun h=>?_) fun h=>?_)<;>simp only[h]))|simp(maxSteps:=4000000) (disch:=first|decide|assumption|omega|(simp only[wL];omega)) only[go_sem,simprocAttr,Tryz.f186])
  simp
theorem NH(a b c:Int):aA Tryz.prog 258 [.lst 1 [[.int .i64 a],[.int .i64 b],[.int .i64 c]] false] St.none (fun r _=>r=.int .i64 (if a≠0 then a else if b≠0 then b else c)):=by
 refine(aA.body 18 [.tmp 2] Tryz.func258 rfl rfl rfl rfl ?_)
 repeat' (first|(with_reducible first|(refine wN fun nl hnl=>?_;revert hnl;(repeat refine wS fun _ _=>?_);intro hnl)|refine wD (by decide +kernel) ?_|refine wI (fun h=>?_) fun h=>?_|refine wF (fun h=>?_) fun h=>?_|refine wG (fun h=>?_) fun h=>?_|refine wH (fun h=>?_) fun h=>?_|((first|refine aG (fun h=>?_) fun h=>?_|refine aE (fun h=>?_) fun h=>?_)<;>simp only[h]))|simp(maxSteps:=4000000) (disch:=first|decide|assumption|omega|(simp only[wL];omega)) only[go_sem,simprocAttr,Tryz.f258])
 refine aD (α:=Nat) (fun k=>⟨18,[(8,.int .i64 (k:Int)),(7,.int .i64 3),(6,.lst 1 [[.int .i64 a],[.int .i64 b],[.int .i64 c]] false),(3,.int .i64 0)],[]⟩) (fun _=>St.none)
  (fun k=>k≤3∧(0<k→a=0)∧(1<k→b=0)∧(2<k→c=0)) (fun k=>3 - k) (.of (.less ?_ (St.le_refl _)) ⟨0,rfl,rfl,by omega⟩) ?_
 ·simp(maxSteps:=4000000) (disch:=first|decide|assumption|omega|(simp only[wL];omega)) only[go_sem,simprocAttr,aC,aB]
  all_goals omega
 ·rintro k ⟨h1,h2,h3,h4⟩
  have hk:k=0∨k=1∨k=2∨k=3:=by omega
  rcases hk with rfl|rfl|rfl|rfl
  ·by_cases ha:a=0
   ·subst ha
    repeat' (first|(with_reducible first|(refine wN fun nl hnl=>?_;revert hnl;(repeat refine wS fun _ _=>?_);intro hnl)|refine wD (by decide +kernel) ?_|refine wI (fun h=>?_) fun h=>?_|refine wF (fun h=>?_) fun h=>?_|refine wG (fun h=>?_) fun h=>?_|refine wH (fun h=>?_) fun h=>?_|((first|refine aG (fun h=>?_) fun h=>?_|refine aE (fun h=>?_) fun h=>?_)<;>simp only[h]))|simp(maxSteps:=4000000) (disch:=first|decide|assumption|omega|(simp only[wL];omega)) only[go_sem,simprocAttr])
    refine .of (.less (l1:=[(8,.int .i64 ((1:Nat):Int)),(7,.int .i64 3),(6,.lst 1 [[.int .i64 0],[.int .i64 b],[.int .i64 c]] false),(3,.int .i64 0)]) ?_ (St.none_le _)) ⟨1,rfl,rfl,⟨by omega,fun _=>trivial,fun h=>by first|assumption|omega,fun h=>by first|assumption|omega⟩,by omega⟩
    simp(maxSteps:=4000000) (disch:=first|decide|assumption|omega|(simp only[wL];omega)) only[go_sem,simprocAttr,aC,aB]
    all_goals omega
   ·repeat' (first|(with_reducible first|(refine wN fun nl hnl=>?_;revert hnl;(repeat refine wS fun _ _=>?_);intro hnl)|refine wD (by decide +kernel) ?_|refine wI (fun h=>?_) fun h=>?_|refine wF (fun h=>?_) fun h=>?_|refine wG (fun h=>?_) fun h=>?_|refine wH (fun h=>?_) fun h=>?_|((first|refine aG (fun h=>?_) fun h=>?_|refine aE (fun h=>?_) fun h=>?_)<;>simp only[h]))|simp(maxSteps:=4000000) (disch:=first|decide|assumption|omega|(simp only[wL];omega)) only[go_sem,simprocAttr])
    all_goals simp[ha]
  ·have ha:=h2 (by omega)
   by_cases hb:b=0
   ·repeat' (first|(with_reducible first|(refine wN fun nl hnl=>?_;revert hnl;(repeat refine wS fun _ _=>?_);intro hnl)|refine wD (by decide +kernel) ?_|refine wI (fun h=>?_) fun h=>?_|refine wF (fun h=>?_) fun h=>?_|refine wG (fun h=>?_) fun h=>?_|refine wH (fun h=>?_) fun h=>?_|((first|refine aG (fun h=>?_) fun h=>?_|refine aE (fun h=>?_) fun h=>?_)<;>simp only[h]))|simp(maxSteps:=4000000) (disch:=first|decide|assumption|omega|(simp only[wL];omega)) only[go_sem,simprocAttr])
    refine .of (.less (l1:=[(8,.int .i64 ((2:Nat):Int)),(7,.int .i64 3),(6,.lst 1 [[.int .i64 a],[.int .i64 b],[.int .i64 c]] false),(3,.int .i64 0)]) ?_ (St.none_le _)) ⟨2,rfl,rfl,⟨by omega,fun _=>by assumption,fun h=>by first|assumption|omega,fun h=>by first|assumption|omega⟩,by omega⟩
    simp(maxSteps:=4000000) (disch:=first|decide|assumption|omega|(simp only[wL];omega)) only[go_sem,simprocAttr,aC,aB]
    all_goals omega
   ·repeat' (first|(with_reducible first|(refine wN fun nl hnl=>?_;revert hnl;(repeat refine wS fun _ _=>?_);intro hnl)|refine wD (by decide +kernel) ?_|refine wI (fun h=>?_) fun h=>?_|refine wF (fun h=>?_) fun h=>?_|refine wG (fun h=>?_) fun h=>?_|refine wH (fun h=>?_) fun h=>?_|((first|refine aG (fun h=>?_) fun h=>?_|refine aE (fun h=>?_) fun h=>?_)<;>simp only[h]))|simp(maxSteps:=4000000) (disch:=first|decide|assumption|omega|(simp only[wL];omega)) only[go_sem,simprocAttr])
    all_goals simp[ha,hb]
  ·have ha:=h2 (by omega)
   have hb:=h3 (by omega)
   by_cases hc:c=0
   ·repeat' (first|(with_reducible first|(refine wN fun nl hnl=>?_;revert hnl;(repeat refine wS fun _ _=>?_);intro hnl)|refine wD (by decide +kernel) ?_|refine wI (fun h=>?_) fun h=>?_|refine wF (fun h=>?_) fun h=>?_|refine wG (fun h=>?_) fun h=>?_|refine wH (fun h=>?_) fun h=>?_|((first|refine aG (fun h=>?_) fun h=>?_|refine aE (fun h=>?_) fun h=>?_)<;>simp only[h]))|simp(maxSteps:=4000000) (disch:=first|decide|assumption|omega|(simp only[wL];omega)) only[go_sem,simprocAttr])
    refine .of (.less (l1:=[(8,.int .i64 ((3:Nat):Int)),(7,.int .i64 3),(6,.lst 1 [[.int .i64 a],[.int .i64 b],[.int .i64 c]] false),(3,.int .i64 0)]) ?_ (St.none_le _)) ⟨3,rfl,rfl,⟨by omega,fun _=>by assumption,fun h=>by first|assumption|omega,fun h=>by first|assumption|omega⟩,by omega⟩
    simp(maxSteps:=4000000) (disch:=first|decide|assumption|omega|(simp only[wL];omega)) only[go_sem,simprocAttr,aC,aB]
    all_goals omega
   ·repeat' (first|(with_reducible first|(refine wN fun nl hnl=>?_;revert hnl;(repeat refine wS fun _ _=>?_);intro hnl)|refine wD (by decide +kernel) ?_|refine wI (fun h=>?_) fun h=>?_|refine wF (fun h=>?_) fun h=>?_|refine wG (fun h=>?_) fun h=>?_|refine wH (fun h=>?_) fun h=>?_|((first|refine aG (fun h=>?_) fun h=>?_|refine aE (fun h=>?_) fun h=>?_)<;>simp only[h]))|simp(maxSteps:=4000000) (disch:=first|decide|assumption|omega|(simp only[wL];omega)) only[go_sem,simprocAttr])
    all_goals simp[ha,hb]
  ·repeat' (first|(with_reducible first|(refine wN fun nl hnl=>?_;revert hnl;(repeat refine wS fun _ _=>?_);intro hnl)|refine wD (by decide +kernel) ?_|refine wI (fun h=>?_) fun h=>?_|refine wF (fun h=>?_) fun h=>?_|refine wG (fun h=>?_) fun h=>?_|refine wH (fun h=>?_) fun h=>?_|((first|refine aG (fun h=>?_) fun h=>?_|refine aE (fun h=>?_) fun h=>?_)<;>simp only[h]))|simp(maxSteps:=4000000) (disch:=first|decide|assumption|omega|(simp only[wL];omega)) only[go_sem,simprocAttr])
   simp[h2 (by omega),h3 (by omega),h4 (by omega)]
theorem Ea(g:FuncId)(a b:List ND)(la:a.length≤1000000)(lb:b.length≤1000000)(ta tb:Bool)(hg:∀x y,x∈a→y∈b→aA Tryz.prog g [.agg x.c,.agg y.c] St.none (fun r _=>r=.int .i64 (dK (cmpL x.key y.key)))) :
  aA Tryz.prog 256 [.lst 5 (a.map ND.c) ta,.lst 5 (b.map ND.c) tb,.fn (.func g) [] []] St.none (fun r _=>r=.int .i64 (dK (mH a b))):=by
 refine(aA.body 39 [.tmp 6] Tryz.func256 rfl rfl rfl rfl ?_)
 repeat' (first|(with_reducible first|(refine wN fun nl hnl=>?_;revert hnl;(repeat refine wS fun _ _=>?_);intro hnl)|refine wD (by decide +kernel) ?_|refine wI (fun h=>?_) fun h=>?_|refine wF (fun h=>?_) fun h=>?_|refine wG (fun h=>?_) fun h=>?_|refine wH (fun h=>?_) fun h=>?_|((first|refine aG (fun h=>?_) fun h=>?_|refine aE (fun h=>?_) fun h=>?_)<;>simp only[h]))|simp(maxSteps:=4000000) (disch:=first|decide|assumption|omega|(simp only[wL];omega)) only[go_sem,simprocAttr,Tryz.f256])
 refine aD (α:=Nat) (fun k=>⟨39,[(13,.int .i64 (k:Int)),(12,.int .i64 (a.length:Int)),(11,.lst 5 (a.map ND.c) ta),(0,.lst 5 (a.map ND.c) ta),(1,.lst 5 (b.map ND.c) tb),(2,.fn (.func g) [] [])],[]⟩) (fun _=>St.none)
  (fun i=>i≤a.length∧i≤b.length∧mH a b=mH (a.drop i) (b.drop i)) (fun k=>a.length - k) (.of (.less ?_ (St.le_refl _)) ⟨0,rfl,rfl,by simp⟩) ?_
 ·simp(maxSteps:=4000000) (disch:=first|decide|assumption|omega|(simp only[wL];omega)) only[go_sem,simprocAttr,aC,aB]
  all_goals rfl
 ·rintro i ⟨h3,h4,h5⟩
  by_cases hi1:i<a.length
  ·by_cases hi2:i<b.length
   ·rw[kX nd0 hi1,kX nd0 hi2,yV] at h5
    have hord:=hg _ _ (bK nd0 hi1) (bK nd0 hi2)
    generalize ho:cmpL (a.getD i nd0).key (b.getD i nd0).key=o at h5 hord
    by_cases hoe:o=.eq
    ·have h0:dK o=0:=by rw[hoe];rfl
     rw[h0] at hord
     rw[if_pos hoe] at h5
     repeat' (first|(with_reducible refine bB hord ?_)|(with_reducible first|(refine wN fun nl hnl=>?_;revert hnl;(repeat refine wS fun _ _=>?_);intro hnl)|refine wD (by decide +kernel) ?_|refine wI (fun h=>?_) fun h=>?_|refine wF (fun h=>?_) fun h=>?_|refine wG (fun h=>?_) fun h=>?_|refine wH (fun h=>?_) fun h=>?_|((first|refine aG (fun h=>?_) fun h=>?_|refine aE (fun h=>?_) fun h=>?_)<;>simp only[h]))|simp(maxSteps:=4000000) (disch:=first|decide|assumption|omega|(simp only[wL];omega)) only[go_sem,simprocAttr,aU nd0])
     refine .of (.less (l1:=[(13,.int .i64 ((i+1:Nat):Int)),(12,.int .i64 (a.length:Int)),(11,.lst 5 (a.map ND.c) ta),(0,.lst 5 (a.map ND.c) ta),(1,.lst 5 (b.map ND.c) tb),(2,.fn (.func g) [] [])]) ?_ (St.none_le _)) ⟨i+1,rfl,rfl,⟨by omega,by omega,h5⟩,by omega⟩
     simp(maxSteps:=4000000) (disch:=first|decide|assumption|omega|(simp only[wL];omega)) only[go_sem,simprocAttr,aC,aB]
     all_goals omega
    ·have h0:dK o≠0:=fun h=>hoe (lB.1 h)
     rw[if_neg hoe] at h5
     rw[h5]
     repeat' (first|(with_reducible refine bB hord ?_)|(with_reducible first|(refine wN fun nl hnl=>?_;revert hnl;(repeat refine wS fun _ _=>?_);intro hnl)|refine wD (by decide +kernel) ?_|refine wI (fun h=>?_) fun h=>?_|refine wF (fun h=>?_) fun h=>?_|refine wG (fun h=>?_) fun h=>?_|refine wH (fun h=>?_) fun h=>?_|((first|refine aG (fun h=>?_) fun h=>?_|refine aE (fun h=>?_) fun h=>?_)<;>simp only[h]))|simp(maxSteps:=4000000) (disch:=first|decide|assumption|omega|(simp only[wL];omega)) only[go_sem,simprocAttr,aU nd0])
   ·rw[kX nd0 hi1,List.drop_eq_nil_of_le (show b.length≤i by omega)] at h5
    rw[h5]
    repeat' (first|(with_reducible first|(refine wN fun nl hnl=>?_;revert hnl;(repeat refine wS fun _ _=>?_);intro hnl)|refine wD (by decide +kernel) ?_|refine wI (fun h=>?_) fun h=>?_|refine wF (fun h=>?_) fun h=>?_|refine wG (fun h=>?_) fun h=>?_|refine wH (fun h=>?_) fun h=>?_|((first|refine aG (fun h=>?_) fun h=>?_|refine aE (fun h=>?_) fun h=>?_)<;>simp only[h]))|simp(maxSteps:=4000000) (disch:=first|decide|assumption|omega|(simp only[wL];omega)) only[go_sem,simprocAttr,aU nd0])
    rfl
  ·rw[List.drop_eq_nil_of_le (show a.length≤i by omega)] at h5
   by_cases h8:i<b.length
   ·rw[kX nd0 h8] at h5
    rw[h5]
    repeat' (first|(with_reducible first|(refine wN fun nl hnl=>?_;revert hnl;(repeat refine wS fun _ _=>?_);intro hnl)|refine wD (by decide +kernel) ?_|refine wI (fun h=>?_) fun h=>?_|refine wF (fun h=>?_) fun h=>?_|refine wG (fun h=>?_) fun h=>?_|refine wH (fun h=>?_) fun h=>?_|((first|refine aG (fun h=>?_) fun h=>?_|refine aE (fun h=>?_) fun h=>?_)<;>simp only[h]))|simp(maxSteps:=4000000) (disch:=first|decide|assumption|omega|(simp only[wL];omega)) only[go_sem,simprocAttr,aU nd0])
    rfl
   ·rw[List.drop_eq_nil_of_le (show b.length≤i by omega)] at h5
    rw[h5]
    repeat' (first|(with_reducible first|(refine wN fun nl hnl=>?_;revert hnl;(repeat refine wS fun _ _=>?_);intro hnl)|refine wD (by decide +kernel) ?_|refine wI (fun h=>?_) fun h=>?_|refine wF (fun h=>?_) fun h=>?_|refine wG (fun h=>?_) fun h=>?_|refine wH (fun h=>?_) fun h=>?_|((first|refine aG (fun h=>?_) fun h=>?_|refine aE (fun h=>?_) fun h=>?_)<;>simp only[h]))|simp(maxSteps:=4000000) (disch:=first|decide|assumption|omega|(simp only[wL];omega)) only[go_sem,simprocAttr,aU nd0])
    rfl
theorem oZ(a b:VA):aA Tryz.prog 260 [.agg a.c,.agg b.c] St.none (fun r _=>r=.int .i64 (dK (cmpL a.key b.key))):=by
 refine(aA.body 28 [.tmp 4] Tryz.func260 rfl rfl rfl rfl ?_)
 by_cases h1:a.kd=b.kd
 ·have e1:cmpL a.key b.key=cmpL (a.n::bk a.s) (b.n::bk b.s):=by rw[VA.key,VA.key,h1,gG];rfl
  have c1:dK (cmpL [a.kd] [b.kd])=0:=by rw[h1,nT];rfl
  by_cases h2:a.n=b.n
  ·have e2:cmpL a.key b.key=cmpL (bk a.s) (bk b.s):=by rw[e1,h2,gG]
   have c2:dK (cmpL [a.n] [b.n])=0:=by rw[h2,nT];rfl
   rw[e2]
   repeat' (first|(with_reducible refine bB (kH _ _) ?_)|(with_reducible refine bB (mI _ _) ?_)|(with_reducible first|(refine wN fun nl hnl=>?_;revert hnl;(repeat refine wS fun _ _=>?_);intro hnl)|refine wD (by decide +kernel) ?_|refine wI (fun h=>?_) fun h=>?_|refine wF (fun h=>?_) fun h=>?_|refine wG (fun h=>?_) fun h=>?_|refine wH (fun h=>?_) fun h=>?_|((first|refine aG (fun h=>?_) fun h=>?_|refine aE (fun h=>?_) fun h=>?_)<;>simp only[h]))|simp(maxSteps:=4000000) (disch:=first|decide|assumption|omega|(simp only[wL];omega)) only[go_sem,simprocAttr,Tryz.f260,c1,c2])
  ·have e2:cmpL a.key b.key=cmpL [a.n] [b.n]:=by rw[e1,lL h2]
   have c2:dK (cmpL [a.n] [b.n])≠0:=fun h=>h2 (by have:=cmpL_eq.1 (lB.1 h);simpa using this)
   rw[e2]
   repeat' (first|(with_reducible refine bB (kH _ _) ?_)|(with_reducible refine bB (mI _ _) ?_)|(with_reducible first|(refine wN fun nl hnl=>?_;revert hnl;(repeat refine wS fun _ _=>?_);intro hnl)|refine wD (by decide +kernel) ?_|refine wI (fun h=>?_) fun h=>?_|refine wF (fun h=>?_) fun h=>?_|refine wG (fun h=>?_) fun h=>?_|refine wH (fun h=>?_) fun h=>?_|((first|refine aG (fun h=>?_) fun h=>?_|refine aE (fun h=>?_) fun h=>?_)<;>simp only[h]))|simp(maxSteps:=4000000) (disch:=first|decide|assumption|omega|(simp only[wL];omega)) only[go_sem,simprocAttr,Tryz.f260,c1])
 ·have e1:cmpL a.key b.key=cmpL [a.kd] [b.kd]:=by rw[VA.key,VA.key,lL h1]
  have c1:dK (cmpL [a.kd] [b.kd])≠0:=fun h=>h1 (by have:=cmpL_eq.1 (lB.1 h);simpa using this)
  rw[e1]
  repeat' (first|(with_reducible refine bB (kH _ _) ?_)|(with_reducible refine bB (mI _ _) ?_)|(with_reducible first|(refine wN fun nl hnl=>?_;revert hnl;(repeat refine wS fun _ _=>?_);intro hnl)|refine wD (by decide +kernel) ?_|refine wI (fun h=>?_) fun h=>?_|refine wF (fun h=>?_) fun h=>?_|refine wG (fun h=>?_) fun h=>?_|refine wH (fun h=>?_) fun h=>?_|((first|refine aG (fun h=>?_) fun h=>?_|refine aE (fun h=>?_) fun h=>?_)<;>simp only[h]))|simp(maxSteps:=4000000) (disch:=first|decide|assumption|omega|(simp only[wL];omega)) only[go_sem,simprocAttr,Tryz.f260])
end
end Go.Proofs.YtojmhmejdihaaaaGreatDoor
